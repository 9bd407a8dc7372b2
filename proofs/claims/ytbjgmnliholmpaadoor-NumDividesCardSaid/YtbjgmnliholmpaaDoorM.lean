/- Several texts of this claim, put together. -/
import Derived.Test.YtbjgmnliholmpaaDoorE19
import Derived.Lib.EndianBits
import Derived.Test.YtbjgmnliholmpaaDoorF1
import Derived.Test.YtbjgmnliholmpaaDoorF2
import Derived.Lib.Strings
/- Digits: what a row of digits stands for, and the one right row of a number (no Go in it). -/
namespace Go.Proofs.YtbjgmnliholmpaaDoor.M
open Go Go.RowKit Go.Proofs.YtbjgmnliholmpaaDoor.V

/-- What a row of digits to the base b stands for, the lowest first. -/
def V (b : Int) : List Int → Int
  | [] => 0
  | x :: xs => x + b * V b xs
/-- Each is a digit. -/
def Dig (b : Int) (l : List Int) : Prop := ∀ x ∈ l, 0 ≤ x ∧ x < b
/-- The right row of a number. -/
def D (b : Nat) (n : Nat) : List Int :=
  if _h : n = 0 ∨ b < 2 then [] else ((n % b : Nat) : Int) :: D b (n / b)
termination_by n
decreasing_by exact Nat.div_lt_self (by omega) (by omega)

theorem D_zero (b : Nat) : D b 0 = [] := by rw [D]; simp
theorem D_pos {b n : Nat} (hb : 2 ≤ b) (hn : n ≠ 0) : D b n = ((n % b : Nat) : Int) :: D b (n / b) := by
  rw [D, dif_neg (by omega)]
theorem V_append (b : Int) (l r : List Int) : V b (l ++ r) = V b l + b ^ l.length * V b r := by
  induction l with
  | nil => simp [V]
  | cons x l ih => simp only [List.cons_append, V, ih, List.length_cons, Int.pow_succ]; rw [Int.mul_add, Int.add_assoc, ← Int.mul_assoc, Int.mul_comm b (b ^ l.length)]
theorem V_snoc (b : Int) (l : List Int) (x : Int) : V b (l ++ [x]) = V b l + b ^ l.length * x := by
  rw [V_append]; simp [V]
theorem V_nonneg {b : Int} (hb : 0 ≤ b) {l : List Int} (h : ∀ x ∈ l, 0 ≤ x) : 0 ≤ V b l := by
  induction l with
  | nil => simp [V]
  | cons x l ih =>
    have h1 := h x (by simp)
    have h2 := ih (fun y hy => h y (by simp [hy]))
    have h3 := Int.mul_nonneg hb h2
    simp only [V]; omega
theorem Dig.nonneg {b : Int} {l : List Int} (h : Dig b l) : ∀ x ∈ l, 0 ≤ x := fun x hx => (h x hx).1
theorem Dig.cons {b : Int} {x : Int} {l : List Int} : Dig b (x :: l) ↔ (0 ≤ x ∧ x < b) ∧ Dig b l := by
  unfold Dig
  simp
theorem Dig.append {b : Int} {l r : List Int} : Dig b (l ++ r) ↔ Dig b l ∧ Dig b r := by
  unfold Dig
  simp only [List.mem_append]
  exact ⟨fun h => ⟨fun x hx => h x (.inl hx), fun x hx => h x (.inr hx)⟩, fun h x hx => hx.elim (h.1 x) (h.2 x)⟩
theorem Dig.snoc {b : Int} {x : Int} {l : List Int} (h : Dig b l) (h0 : 0 ≤ x) (h1 : x < b) : Dig b (l ++ [x]) :=
  Dig.append.2 ⟨h, fun y hy => by rw [List.mem_singleton] at hy; subst hy; exact ⟨h0, h1⟩⟩
theorem Dig.nil (b : Int) : Dig b [] := fun x hx => absurd hx (by simp)
theorem D_dig {b : Nat} (hb : 2 ≤ b) (n : Nat) : Dig b (D b n) := by
  induction n using Nat.strongRecOn with
  | _ n ih =>
    by_cases hn : n = 0
    · subst hn; rw [D_zero]; exact Dig.nil _
    · rw [D_pos hb hn]
      refine Dig.cons.2 ⟨⟨by omega, ?_⟩, ih _ (Nat.div_lt_self (by omega) (by omega))⟩
      have := Nat.mod_lt n (show 0 < b by omega)
      omega
theorem V_D {b : Nat} (hb : 2 ≤ b) (n : Nat) : V b (D b n) = n := by
  induction n using Nat.strongRecOn with
  | _ n ih =>
    by_cases hn : n = 0
    · subst hn; rw [D_zero]; rfl
    · rw [D_pos hb hn]
      simp only [V]
      rw [ih _ (Nat.div_lt_self (by omega) (by omega))]
      have := Nat.div_add_mod n b
      have h2 : ((b * (n / b) + n % b : Nat) : Int) = n := by rw [this]
      simp only [Int.natCast_add, Int.natCast_mul] at h2
      omega
/-- A row of digits without a nought at its end is the right row of what it stands for. -/
theorem D_of {b : Nat} (hb : 2 ≤ b) {l : List Int} (h : Dig b l) (hl : l.getLast? ≠ some 0) : l = D b (V b l).toNat := by
  induction l with
  | nil => simp [V, D_zero]
  | cons x l ih =>
    obtain ⟨⟨hx0, hx1⟩, hd⟩ := Dig.cons.1 h
    have hv := V_nonneg (b := (b : Int)) (by omega) hd.nonneg
    have hl' : l.getLast? ≠ some 0 := by
      cases l with
      | nil => simp
      | cons y l => rwa [List.getLast?_cons_cons] at hl
    have e := ih hd hl'
    have hbv := Int.mul_nonneg (show (0 : Int) ≤ (b : Int) by omega) hv
    have hne : (V b (x :: l)).toNat ≠ 0 := by
      simp only [V]
      intro h0
      have hx : x = 0 := by omega
      have hz : (b : Int) * V b l = 0 := by omega
      have hvz : V b l = 0 := by
        rcases Int.mul_eq_zero.1 hz with h1 | h1
        · omega
        · exact h1
      rw [hvz] at e
      simp [D_zero] at e
      subst e
      simp [hx] at hl
    rw [D_pos hb hne]
    obtain ⟨v, hv'⟩ : ∃ v : Nat, V b l = v := ⟨(V b l).toNat, by omega⟩
    obtain ⟨y, rfl⟩ : ∃ y : Nat, x = y := ⟨x.toNat, by omega⟩
    have e2 : (V b ((y : Int) :: l)).toNat = y + b * v := by
      simp only [V, hv']
      rw [← Int.natCast_mul, ← Int.natCast_add, Int.toNat_natCast]
    rw [e2, Nat.add_mul_mod_self_left, Nat.add_mul_div_left _ _ (by omega), Nat.mod_eq_of_lt (by omega), Nat.div_eq_of_lt (by omega), Nat.zero_add]
    rw [hv', Int.toNat_natCast] at e
    rw [← e]
theorem D_last {b : Nat} (hb : 2 ≤ b) (n : Nat) : (D b n).getLast? ≠ some 0 := by
  induction n using Nat.strongRecOn with
  | _ n ih =>
    by_cases hn : n = 0
    · subst hn; rw [D_zero]; simp
    · rw [D_pos hb hn]
      have ih' := ih (n / b) (Nat.div_lt_self (by omega) (by omega))
      by_cases h0 : n / b = 0
      · rw [h0, D_zero]
        simp
        have := Nat.div_add_mod n b
        rw [h0] at this
        omega
      · rw [D_pos hb h0] at ih' ⊢
        rw [List.getLast?_cons_cons]
        exact ih'
theorem D_inj {b : Nat} (hb : 2 ≤ b) {n m : Nat} (h : D b n = D b m) : n = m := by
  have h1 := V_D hb n
  have h2 := V_D hb m
  rw [h] at h1
  omega
theorem V_lt {b : Nat} {l : List Int} (h : Dig b l) : V b l < (b : Int) ^ l.length := by
  induction l with
  | nil => simp [V]
  | cons x l ih =>
    obtain ⟨⟨hx0, hx1⟩, hd⟩ := Dig.cons.1 h
    have := ih hd
    simp only [V, List.length_cons, Int.pow_succ]
    have h2 : (b : Int) * (V b l + 1) ≤ (b : Int) * (b : Int) ^ l.length := Int.mul_le_mul_of_nonneg_left (by omega) (by omega)
    rw [Int.mul_add, Int.mul_one] at h2
    rw [Int.mul_comm ((b : Int) ^ l.length)]
    omega
theorem D_len {b : Nat} (hb : 2 ≤ b) {n k : Nat} : (D b n).length ≤ k ↔ n < b ^ k := by
  induction k generalizing n with
  | zero =>
    by_cases hn : n = 0
    · subst hn; simp [D_zero]
    · rw [D_pos hb hn]; simp; omega
  | succ k ih =>
    by_cases hn : n = 0
    · subst hn
      simp [D_zero]
      exact Nat.pow_pos (by omega)
    · rw [D_pos hb hn, List.length_cons, Nat.add_le_add_iff_right, ih, Nat.div_lt_iff_lt_mul (by omega), Nat.pow_succ]
theorem V_getD {b : Int} (l : List Int) (i : Nat) : V b (l.drop i) = l.getD i 0 + b * V b (l.drop (i + 1)) := by
  by_cases h : i < l.length
  · rw [List.drop_eq_getElem_cons h]
    simp [V, List.getD, h]
  · rw [List.drop_eq_nil_of_le (by omega), List.drop_eq_nil_of_le (by omega)]
    simp [V, List.getD, List.getElem?_eq_none (show l.length ≤ i by omega)]
theorem V_take_drop {b : Int} (l : List Int) (i : Nat) (h : i ≤ l.length) : V b l = V b (l.take i) + b ^ i * V b (l.drop i) := by
  have h1 := V_append b (l.take i) (l.drop i)
  rw [List.take_append_drop, List.length_take, Nat.min_eq_left h] at h1
  exact h1
theorem V_take_succ {b : Int} (l : List Int) (i : Nat) (h : i < l.length) : V b (l.take (i + 1)) = V b (l.take i) + b ^ i * l.getD i 0 := by
  rw [List.take_succ_eq_append_getElem h, V_snoc, List.length_take, Nat.min_eq_left (by omega)]
  simp [List.getD, h]
theorem V_set {b : Int} (l : List Int) (i : Nat) (x : Int) (h : i < l.length) : V b (l.set i x) = V b l + b ^ i * (x - l.getD i 0) := by
  induction l generalizing i with
  | nil => simp at h
  | cons y l ih =>
    cases i with
    | zero => simp [V]; omega
    | succ i =>
      simp only [List.set_cons_succ, V]
      rw [ih i (by simpa using h), Int.pow_succ, Int.mul_add, List.getD_cons_succ, Int.add_assoc, Int.mul_comm (b ^ i) b, Int.mul_assoc]
theorem V_replicate (b : Int) (n : Nat) : V b (List.replicate n 0) = 0 := by
  induction n with
  | zero => rfl
  | succ n ih => rw [List.replicate_succ, V, ih]; simp

-- machine arithmetic
theorem w64 {x : Int} (h0 : -9223372036854775808 ≤ x) (h1 : x < 9223372036854775808) : wrap64 x = x := by unfold wrap64; omega
theorem wu {x : Int} (h0 : 0 ≤ x) (h1 : x < 18446744073709551616) : IntKind.u64.wrap x = x := by rw [IntKind.wrap_u64]; omega
theorem wu3 {x : Int} (h0 : 0 ≤ x) (h1 : x < 4294967296) : IntKind.u32.wrap x = x := by simp only [IntKind.wrap, IntKind.bits, IntKind.signed]; simp; omega
theorem tm {x : Int} (b : Int) (h0 : 0 ≤ x) : Int.tmod x b = x % b := Int.tmod_eq_emod_of_nonneg h0
theorem td {x : Int} (b : Int) (h0 : 0 ≤ x) : Int.tdiv x b = x / b := Int.tdiv_eq_ediv_of_nonneg h0
theorem rd_nat (l : List Int) (i : Nat) : rd l (i : Int) = l.getD i 0 := by unfold rd; simp
theorem getD_mem {l : List Int} {P : Int → Prop} (h : ∀ x ∈ l, P x) (h0 : P 0) (i : Nat) : P (l.getD i 0) := by
  by_cases hi : i < l.length
  · rw [List.getD_eq_getElem?_getD, List.getElem?_eq_getElem hi]; exact h _ (List.getElem_mem hi)
  · rw [List.getD_eq_getElem?_getD, List.getElem?_eq_none (by omega)]; exact h0
theorem V_take_next {b : Int} (l : List Int) (i : Nat) : V b (l.take (i + 1)) = V b (l.take i) + b ^ i * l.getD i 0 := by
  by_cases h : i < l.length
  · exact V_take_succ l i h
  · rw [List.take_of_length_le (by omega), List.take_of_length_le (by omega), List.getD_eq_getElem?_getD, List.getElem?_eq_none (by omega)]; simp
/-- A row of n that is filled up to i. -/
structure Fill (P : Int → Prop) (n i : Nat) (l : List Int) : Prop where
  len : l.length = n
  all : ∀ x ∈ l, P x
  zero : ∀ j, i ≤ j → l.getD j 0 = 0
theorem Fill.start {P : Int → Prop} (h : P 0) (n : Nat) : Fill P n 0 (List.replicate n 0) := by
  refine ⟨by simp, fun x hx => by rw [List.eq_of_mem_replicate hx]; exact h, fun j _ => ?_⟩
  rw [List.getD_eq_getElem?_getD, List.getElem?_replicate]
  split <;> rfl
theorem mem_set {P : Int → Prop} {l : List Int} (h : ∀ x ∈ l, P x) {x : Int} (hx : P x) (i : Nat) : ∀ y ∈ l.set i x, P y := by
  intro y hy
  rcases List.mem_or_eq_of_mem_set hy with h1 | h1
  · exact h y h1
  · rw [h1]; exact hx
theorem getD_set_ne {l : List Int} {i j : Nat} (x : Int) (h : i ≠ j) : (l.set i x).getD j 0 = l.getD j 0 := by
  rw [List.getD_eq_getElem?_getD, List.getD_eq_getElem?_getD, List.getElem?_set_ne h]
theorem getD_set_eq {l : List Int} {i : Nat} (x : Int) (h : i < l.length) : (l.set i x).getD i 0 = x := by
  rw [List.getD_eq_getElem?_getD, List.getElem?_set_self h]; rfl
theorem Fill.set {P : Int → Prop} {n i : Nat} {l : List Int} (h : Fill P n i l) {x : Int} (hx : P x) : Fill P n (i + 1) (l.set i x) :=
  ⟨by rw [List.length_set, h.len], mem_set h.all hx i, fun j hj => by rw [getD_set_ne x (by omega)]; exact h.zero j (by omega)⟩
theorem Fill.val {P : Int → Prop} {n i : Nat} {l : List Int} (h : Fill P n i l) (b x : Int) (hi : i < n) : V b (l.set i x) = V b l + b ^ i * x := by
  rw [V_set l i x (by rw [h.len]; exact hi), h.zero i (Nat.le_refl _), Int.sub_zero]
theorem D_drop {b : Nat} (hb : 2 ≤ b) (n j : Nat) : (D b n).drop j = D b (n / b ^ j) := by
  induction j generalizing n with
  | zero => simp
  | succ j ih =>
    by_cases hn : n = 0
    · subst hn; simp [D_zero]
    · rw [D_pos hb hn, List.drop_succ_cons, ih, Nat.div_div_eq_div_mul, Nat.pow_succ, Nat.mul_comm]
theorem D_take {b : Nat} (hb : 2 ≤ b) (n j : Nat) : V b ((D b n).take j) = ((n % b ^ j : Nat) : Int) := by
  induction j generalizing n with
  | zero => simp [V, Nat.mod_one]
  | succ j ih =>
    by_cases hn : n = 0
    · subst hn; simp [D_zero, V]
    · rw [D_pos hb hn, List.take_succ_cons, V, ih, Nat.pow_succ, Nat.mul_comm (b ^ j), Nat.mod_mul]
      simp
theorem D_len_add {b : Nat} (hb : 2 ≤ b) (n m : Nat) : (D b (n + m)).length ≤ (D b n).length + (D b m).length + 1 := by
  rw [D_len hb]
  have h1 := (D_len hb (n := n)).1 (Nat.le_refl _)
  have h2 := (D_len hb (n := m)).1 (Nat.le_refl _)
  generalize (D b n).length = p at *
  generalize (D b m).length = q at *
  have e1 : b ^ p ≤ b ^ (p + q) := Nat.pow_le_pow_right (by omega) (by omega)
  have e2 : b ^ q ≤ b ^ (p + q) := Nat.pow_le_pow_right (by omega) (by omega)
  rw [Nat.pow_succ]
  have e3 : b ^ (p + q) * 2 ≤ b ^ (p + q) * b := Nat.mul_le_mul_left _ hb
  omega
theorem D_len_mul {b : Nat} (hb : 2 ≤ b) (n m : Nat) : (D b (n * m)).length ≤ (D b n).length + (D b m).length := by
  rw [D_len hb, Nat.pow_add]
  exact Nat.mul_lt_mul'' ((D_len hb).1 (Nat.le_refl _)) ((D_len hb).1 (Nat.le_refl _))
theorem D_len_mono {b : Nat} (hb : 2 ≤ b) {n m : Nat} (h : n ≤ m) : (D b n).length ≤ (D b m).length := by
  rw [D_len hb]
  exact Nat.lt_of_le_of_lt h ((D_len hb).1 (Nat.le_refl _))
/-- A row whose entries are below b² is not much longer than its right row. -/
theorem V_len' {b : Nat} {l : List Int} (h : ∀ x ∈ l, 0 ≤ x ∧ x ≤ (b : Int) * b - b) : V b l ≤ (b : Int) ^ (l.length + 1) - b := by
  induction l with
  | nil => simp [V, Int.pow_succ]
  | cons x l ih =>
    have h1 := ih (fun y hy => h y (by simp [hy]))
    have h2 := h x (by simp)
    simp only [V, List.length_cons]
    have h3 : (b : Int) * V b l ≤ (b : Int) * ((b : Int) ^ (l.length + 1) - b) := Int.mul_le_mul_of_nonneg_left h1 (by omega)
    rw [Int.mul_sub] at h3
    rw [Int.pow_succ, Int.mul_comm ((b : Int) ^ (l.length + 1))]
    omega
theorem D_len_V {b : Nat} (hb : 2 ≤ b) {l : List Int} (h : ∀ x ∈ l, 0 ≤ x ∧ x ≤ (b : Int) * b - b) : (D b (V b l).toNat).length ≤ l.length + 1 := by
  rw [D_len hb]
  have h1 := V_len' h
  have h2 := V_nonneg (b := (b : Int)) (by omega) (fun x hx => (h x hx).1)
  have h3 : ((b ^ (l.length + 1) : Nat) : Int) = (b : Int) ^ (l.length + 1) := by simp
  omega
theorem bd {α β : Type} {o : Option α} {x : α} {g : α → Option β} {r : Option β} (h : o = some x) (h2 : g x = r) : o.bind g = r := by rw [h]; exact h2
section
variable [Yc]
/-- A truth behind its veil. -/
theorem yp {α : Type} {p : Prop} [Decidable p] {a b : α} (h : p) : cond (Yc.y (decide p)) a b = a := by rw [Yc.h, decide_eq_true h]; rfl
theorem yb {α : Type} {c : Bool} {a b : α} (h : c = true) : cond (Yc.y c) a b = a := by rw [Yc.h, h]; rfl
theorem yf {α : Type} {c : Bool} {a b : α} (h : c = false) : cond (Yc.y c) a b = b := by rw [Yc.h, h]; rfl
theorem yn {α : Type} {p : Prop} [Decidable p] {a b : α} (h : ¬ p) : cond (Yc.y (decide p)) a b = b := by rw [Yc.h, decide_eq_false h]; rfl
end
end Go.Proofs.YtbjgmnliholmpaaDoor.M

/- What the functions of package nat compute, in plain Lean over their printed forms: carried, of, row, plus, less, compare, times. -/
namespace Go.Proofs.YtbjgmnliholmpaaDoor.M
open Go Go.RowKit Go.Proofs.YtbjgmnliholmpaaDoor.V Go.Proofs.YtbjgmnliholmpaaDoor.X
variable [Yc]
set_option linter.unusedSectionVars false

abbrev B : Nat := 1000000000
theorem B2 : 2 ≤ B := by decide
/-- The row of a number, as the program has it. -/
abbrev D9 (n : Nat) : List Int := D B n

theorem at_f (l : List Int) (i : Nat) : nat_digits_at.f l (i : Int) = some (l.getD i 0) := by
  unfold nat_digits_at.f
  rw [yp (by omega)]
  by_cases h : i < l.length
  · rw [yp (by omega), yp (by omega), yp (by omega), rd_nat]
  · rw [yn (by omega), List.getD_eq_getElem?_getD, List.getElem?_eq_none (by omega)]; rfl

theorem at_neg (l : List Int) (i : Int) (h : i < 0) : nat_digits_at.f l i = some 0 := by
  unfold nat_digits_at.f
  rw [yn (by omega)]

theorem top_f (l : List Int) (hl : l.length ≤ 1000000000000000) : nat_digits_top.f l = some (l.getLast?.getD 0) := by
  unfold nat_digits_top.f
  rw [w64 (by omega) (by omega)]
  by_cases h0 : l = []
  · subst h0
    rw [at_neg _ _ (by simp)]
    rfl
  · have hp : 0 < l.length := List.length_pos_iff.2 h0
    rw [show ((l.length : Int) - 1) = ((l.length - 1 : Nat) : Int) from by omega, at_f]
    simp [List.getLast?_eq_getElem?]

/-- The noughts at the end fall away. -/
theorem trim_l1 (o : List Int) : Dig B o → o.length ≤ 1000000000000 → nat_carried.l1 o = some (D9 (V B o).toNat) := by
  induction h : o.length generalizing o with
  | zero =>
    intro _ _
    obtain rfl := List.eq_nil_of_length_eq_zero h
    refine Eq.trans (b := some []) ?_ ?_
    · rw [nat_carried.l1_eq]
      unfold nat_carried.s1
      rw [yn (by simp)]
    · simp [V, D_zero]
  | succ n ih =>
    intro hd hl
    have hne : o ≠ [] := by intro h0; subst h0; simp at h
    obtain ⟨p, x, rfl⟩ : ∃ p x, o = p ++ [x] := ⟨o.dropLast, o.getLast hne, (List.dropLast_concat_getLast hne).symm⟩
    have hp : p.length = n := by simpa using h
    have hd' := Dig.append.1 hd
    by_cases hx : x = 0
    · subst hx
      refine Eq.trans (b := nat_carried.l1 p) ?_ ?_
      · rw [nat_carried.l1_eq]
        unfold nat_carried.s1
        rw [yp (by simp; try omega), top_f _ (by simp at h hl ⊢; omega)]
        simp only [Option.bind_some]
        have e : wrap64 (((p ++ [(0 : Int)]).length : Int) - 1) = p.length := by
          rw [w64 (by simp; try omega) (by simp at h hl ⊢; omega)]; simp
        rw [yp (by simp), e, yp (by omega), yp (by simp; omega), Int.toNat_natCast, List.take_left' rfl]
      · rw [V_snoc, Int.mul_zero, Int.add_zero]
        exact ih p hp hd'.1 (by simp at hl; omega)
    · refine Eq.trans (b := some (p ++ [x])) ?_ ?_
      · rw [nat_carried.l1_eq]
        unfold nat_carried.s1
        rw [yp (by simp), top_f _ (by simp at h hl ⊢; omega)]
        simp only [Option.bind_some]
        rw [yn (by simpa using hx)]
      · have e := D_of B2 hd (by simpa using hx)
        show _ = some (D B _)
        rw [← e]

/-- What is left of the carry, behind the last digit. -/
theorem carry_tail (d o : List Int) (c : Nat) : c < 18446744073709551616 → Dig B o → d.length ≤ o.length → o.length + c ≤ 1000000000000 →
    nat_carried.l0 d o (c : Int) (o.length : Int) = some (D9 (V B o + (B : Int) ^ o.length * c).toNat) := by
  induction c using Nat.strongRecOn generalizing o with
  | _ c ih =>
    intro hc hd hl hb
    by_cases h0 : c = 0
    · subst h0
      refine Eq.trans (b := nat_carried.l1 o) ?_ ?_
      · rw [nat_carried.l0_eq]
        unfold nat_carried.s0
        rw [yn (by omega), yn (by simp)]
      · simpa using trim_l1 o hd (by omega)
    · have hlt : c / B < c := Nat.div_lt_self (by omega) (by decide)
      have hm : c % B < B := Nat.mod_lt _ (by decide)
      have ih' := ih (c / B) hlt (o ++ [((c % B : Nat) : Int)]) (by omega) (Dig.snoc hd (by omega) (by omega)) (by simp; omega) (by simp; omega)
      refine Eq.trans (b := nat_carried.l0 d (o ++ [((c % B : Nat) : Int)]) ((c / B : Nat) : Int) ((o ++ [((c % B : Nat) : Int)]).length : Int)) ?_ ?_
      · rw [nat_carried.l0_eq]
        unfold nat_carried.s0
        rw [yn (by omega), yp (by omega), at_f]
        simp only [Option.bind_some]
        rw [List.getD_eq_getElem?_getD, List.getElem?_eq_none hl, Option.getD_none, Int.add_zero, wu (by omega) (by omega), tm _ (by omega), td _ (by omega), yp (by omega), wu (by omega) (by omega), w64 (by omega) (by omega)]
        congr 1
        simp
      · have e : V B o + (B : Int) ^ o.length * c = V B (o ++ [((c % B : Nat) : Int)]) + (B : Int) ^ (o ++ [((c % B : Nat) : Int)]).length * ((c / B : Nat) : Int) := by
          rw [V_snoc, List.length_append, List.length_singleton, Int.pow_succ, Int.add_assoc, Int.mul_assoc, ← Int.mul_add]
          congr 2
          have := Nat.mod_add_div c B
          omega
        rw [e]
        exact ih'
/-- carried: the right row of what a row of any small numbers stands for. -/
theorem carry_l0 (d : List Int) (hd : ∀ x ∈ d, 0 ≤ x ∧ x < 9223372036854775808) (hn : d.length ≤ 1000000000) (m : Nat) :
    ∀ (o : List Int) (c : Nat), o.length + m = d.length → c < 34359738368 → Dig B o →
    nat_carried.l0 d o (c : Int) (o.length : Int) = some (D9 (V B o + (B : Int) ^ o.length * (c + V B (d.drop o.length))).toNat) := by
  induction m with
  | zero =>
    intro o c hm hc ho
    have := carry_tail d o c (by omega) ho (by omega) (by omega)
    rw [List.drop_eq_nil_of_le (by omega)]
    simpa [V] using this
  | succ m ih =>
    intro o c hm hc ho
    obtain ⟨x, hx⟩ : ∃ x, d.getD o.length 0 = x := ⟨_, rfl⟩
    have hx' := getD_mem (P := fun x => 0 ≤ x ∧ x < 9223372036854775808) hd (by omega) o.length
    rw [hx] at hx'
    obtain ⟨y, rfl⟩ : ∃ y : Nat, x = y := ⟨x.toNat, by omega⟩
    have hmod : (c + y) % B < B := Nat.mod_lt _ (by decide)
    have hdv : (c + y) / B < 34359738368 := by
      rw [Nat.div_lt_iff_lt_mul (by decide)]
      show c + y < 34359738368 * 1000000000
      omega
    have ih' := ih (o ++ [(((c + y) % B : Nat) : Int)]) ((c + y) / B) (by simp; omega) hdv (Dig.snoc ho (by omega) (by omega))
    refine Eq.trans (b := nat_carried.l0 d (o ++ [(((c + y) % B : Nat) : Int)]) (((c + y) / B : Nat) : Int) ((o ++ [(((c + y) % B : Nat) : Int)]).length : Int)) ?_ ?_
    · rw [nat_carried.l0_eq]
      unfold nat_carried.s0
      rw [yp (by omega), at_f]
      simp only [Option.bind_some]
      rw [hx, wu (by omega) (by omega), tm _ (by omega), td _ (by omega), yp (by omega), wu (by omega) (by omega), w64 (by omega) (by omega)]
      congr 1
      simp
    · have e : V B o + (B : Int) ^ o.length * (c + V B (d.drop o.length)) = V B (o ++ [(((c + y) % B : Nat) : Int)]) + (B : Int) ^ (o ++ [(((c + y) % B : Nat) : Int)]).length * ((((c + y) / B : Nat) : Int) + V B (d.drop (o ++ [(((c + y) % B : Nat) : Int)]).length)) := by
        rw [V_snoc, List.length_append, List.length_singleton, Int.pow_succ, Int.add_assoc, Int.mul_assoc, ← Int.mul_add, V_getD d o.length, hx]
        congr 2
        have := Nat.mod_add_div (c + y) B
        rw [Int.mul_add]
        omega
      rw [e]
      exact ih'

theorem carried_f (d : List Int) (hd : ∀ x ∈ d, 0 ≤ x ∧ x < 9223372036854775808) (hn : d.length ≤ 1000000000) :
    nat_carried.f d = some (D9 (V B d).toNat) := by
  have h := carry_l0 d hd hn d.length [] 0 (by simp) (by omega) (Dig.nil _)
  simp only [V, List.length_nil, List.drop_zero, Int.pow_zero, Int.one_mul, Int.zero_add, Int.ofNat_zero] at h
  refine Eq.trans ?_ h
  unfold nat_carried.f
  rw [w64 (by omega) (by omega), yp (by omega), yp (by omega)]
end Go.Proofs.YtbjgmnliholmpaaDoor.M

/- What the functions of package nat compute, in plain Lean over their printed forms: of, row, plus, less, compare. -/
namespace Go.Proofs.YtbjgmnliholmpaaDoor.M
open Go Go.RowKit Go.Proofs.YtbjgmnliholmpaaDoor.V Go.Proofs.YtbjgmnliholmpaaDoor.X
variable [Yc]
set_option linter.unusedSectionVars false

/-- Each is a uint32. -/
abbrev U32 (l : List Int) : Prop := ∀ x ∈ l, 0 ≤ x ∧ x < 4294967296
theorem of_l0 (l : List Int) (hl : U32 l) (hn : l.length ≤ 1000000) (m : Nat) : ∀ (i : Nat) (a : List Int), i + m = l.length →
    Fill (fun x => 0 ≤ x ∧ x < 4294967296) l.length i a → V B a = V B (l.take i) →
    nat_of.l0 a l (l.length : Int) (i : Int) = some (D9 (V B l).toNat) := by
  induction m with
  | zero =>
    intro i a hi hf hv
    refine Eq.trans (b := (nat_carried.f a).bind fun t => some t) ?_ ?_
    · rw [nat_of.l0_eq]
      unfold nat_of.s0
      rw [yn (by omega)]
    · rw [List.take_of_length_le (by omega)] at hv
      rw [← hv]
      refine bd (carried_f a (fun x hx => ?_) (by rw [hf.len]; omega)) (rfl)
      have := hf.all x hx
      omega
  | succ m ih =>
    intro i a hi hf hv
    have hx := getD_mem (P := fun x => 0 ≤ x ∧ x < 4294967296) hl (by omega) i
    have ha := hf.len
    refine Eq.trans (b := nat_of.l0 (a.set i (l.getD i 0)) l (l.length : Int) ((i + 1 : Nat) : Int)) ?_ (ih (i + 1) _ (by omega) (hf.set hx) ?_)
    · rw [nat_of.l0_eq]
      unfold nat_of.s0
      rw [yp (by omega), yp (by omega), yp (by omega), yp (by omega), yp (by omega), rd_nat, wu (by omega) (by omega), w64 (by omega) (by omega)]
      rfl
    · rw [hf.val B _ (by omega), hv, V_take_next]
theorem of_f (l : List Int) (hl : U32 l) (hn : l.length ≤ 1000000) : nat_of.f l = some (D9 (V B l).toNat) := by
  refine Eq.trans ?_ (of_l0 l hl hn l.length 0 _ (by omega) (Fill.start (by omega) _) (by rw [V_replicate]; rfl))
  unfold nat_of.f
  rw [yp (by omega), yp (by omega)]
  rfl

theorem D9_dig (n : Nat) : Dig B (D9 n) := D_dig B2 n
theorem D9_V (n : Nat) : V B (D9 n) = n := V_D B2 n
theorem Dig9 {l : List Int} (h : Dig B l) : ∀ x ∈ l, 0 ≤ x ∧ x < 1000000000 := h
theorem D9_lt (n : Nat) : ∀ x ∈ D9 n, 0 ≤ x ∧ x < 1000000000 := D9_dig n
theorem D9_at (n i : Nat) : 0 ≤ (D9 n).getD i 0 ∧ (D9 n).getD i 0 < 1000000000 := getD_mem (P := fun x => 0 ≤ x ∧ x < 1000000000) (D9_lt n) (by omega) i
theorem row_l0 (l : List Int) (hl : Dig B l) (hn : l.length ≤ 1000000) (m : Nat) : ∀ (i : Nat), i + m = l.length →
    nat_number_row.l0 (l.take i) l (l.length : Int) (i : Int) = some l := by
  induction m with
  | zero =>
    intro i hi
    refine Eq.trans (b := some l) ?_ (rfl)
    rw [nat_number_row.l0_eq]
    unfold nat_number_row.s0
    rw [yn (by omega), List.take_of_length_le (by omega)]
  | succ m ih =>
    intro i hi
    refine Eq.trans (b := nat_number_row.l0 (l.take (i + 1)) l (l.length : Int) ((i + 1 : Nat) : Int)) ?_ (ih (i + 1) (by omega))
    have hx := getD_mem (P := fun x => 0 ≤ x ∧ x < 1000000000) (Dig9 hl) (by omega) i
    rw [nat_number_row.l0_eq]
    unfold nat_number_row.s0
    rw [yp (by omega), yp (by omega), yp (by omega), yp (by simp; omega), rd_nat, w64 (by omega) (by omega), wu3 (by omega) (by omega), List.take_succ_eq_append_getElem (by omega)]
    congr 2
    simp [List.getD, show i < l.length by omega]
theorem row_f (n : Nat) (hn : (D9 n).length ≤ 1000000) : nat_number_row.f (D9 n) = some (D9 n) :=
  Eq.trans rfl (row_l0 (D9 n) (D9_dig n) hn (D9 n).length 0 (by omega))

theorem plus_l0 (n m : Nat) (L : Nat) (hL1 : (D9 n).length ≤ L) (hL2 : (D9 m).length ≤ L) (hL : L ≤ 1000000) (q : Nat) : ∀ (i : Nat) (a : List Int), i + q = L →
    Fill (fun x => 0 ≤ x ∧ x < 4294967296) L i a → V B a = V B ((D9 n).take i) + V B ((D9 m).take i) →
    nat_number_plus.l0 (D9 n) (D9 m) a (L : Int) (i : Int) = some (D9 (n + m)) := by
  induction q with
  | zero =>
    intro i a hi hf hv
    refine Eq.trans (b := (nat_carried.f a).bind fun t => some t) ?_ ?_
    · rw [nat_number_plus.l0_eq]
      unfold nat_number_plus.s0
      rw [yn (by omega)]
    · rw [List.take_of_length_le (by omega), List.take_of_length_le (by omega), D9_V, D9_V] at hv
      have e : (V B a).toNat = n + m := by rw [hv]; omega
      rw [← e]
      refine bd (carried_f a (fun x hx => ?_) (by rw [hf.len]; omega)) (rfl)
      have := hf.all x hx
      omega
  | succ q ih =>
    intro i a hi hf hv
    have hx := D9_at n i
    have hy := D9_at m i
    have ha := hf.len
    refine Eq.trans (b := nat_number_plus.l0 (D9 n) (D9 m) (a.set i ((D9 n).getD i 0 + (D9 m).getD i 0)) (L : Int) ((i + 1 : Nat) : Int)) ?_ (ih (i + 1) _ (by omega) (hf.set ⟨by omega, by omega⟩) ?_)
    · rw [nat_number_plus.l0_eq]
      unfold nat_number_plus.s0
      rw [yp (by omega), at_f, at_f]
      simp only [Option.bind_some]
      rw [yp (by omega), yp (by omega), wu (by omega) (by omega), w64 (by omega) (by omega)]
      rfl
    · rw [hf.val B _ (by omega), hv, V_take_next, V_take_next, Int.mul_add]
      omega
theorem plus_f (n m : Nat) (h1 : (D9 n).length ≤ 1000000) (h2 : (D9 m).length ≤ 1000000) : nat_number_plus.f (D9 n) (D9 m) = some (D9 (n + m)) := by
  by_cases h : (D9 n).length < (D9 m).length
  · refine Eq.trans ?_ (plus_l0 n m (D9 m).length (by omega) (by omega) h2 (D9 m).length 0 _ (by omega) (Fill.start (by omega) _) (by rw [V_replicate]; simp [V]))
    unfold nat_number_plus.f
    rw [if_pos rfl, if_pos (by omega), yp (by omega), yp (by omega)]
    simp only [Option.bind_some, List.length_replicate, Int.toNat_natCast]
    rfl
  · refine Eq.trans ?_ (plus_l0 n m (D9 n).length (by omega) (by omega) h1 (D9 n).length 0 _ (by omega) (Fill.start (by omega) _) (by rw [V_replicate]; simp [V]))
    unfold nat_number_plus.f
    rw [if_pos rfl, if_neg (by omega), yp (by omega), yp (by omega)]
    simp only [Option.bind_some, List.length_replicate, Int.toNat_natCast]
    rfl

theorem less_l0 (n m : Nat) (hnm : m ≤ n) (h1 : (D9 n).length ≤ 1000000) (q : Nat) : ∀ (i : Nat) (a : List Int) (c : Int), i + q = (D9 n).length → (0 ≤ c ∧ c ≤ 1) →
    Fill (fun x => 0 ≤ x ∧ x < 1000000000) (D9 n).length i a → V B a = V B ((D9 n).take i) - V B ((D9 m).take i) + (B : Int) ^ i * c →
    nat_number_less.l0 (D9 n) (D9 m) a c ((D9 n).length : Int) (i : Int) = some (D9 (n - m)) := by
  induction q with
  | zero =>
    intro i a c hi hc hf hv
    refine Eq.trans (b := (nat_carried.f a).bind fun t => some t) ?_ ?_
    · rw [nat_number_less.l0_eq]
      unfold nat_number_less.s0
      rw [yn (by omega)]
    · have hml : (D9 m).length ≤ (D9 n).length := D_len_mono B2 hnm
      rw [List.take_of_length_le (by omega), List.take_of_length_le (by omega), D9_V, D9_V] at hv
      have hlt := V_lt (b := B) (l := a) hf.all
      rw [hf.len, show (D9 n).length = i by omega] at hlt
      have hc0 : c = 0 := by
        rcases (show c = 0 ∨ c = 1 by omega) with h | h
        · exact h
        · rw [h, Int.mul_one] at hv
          generalize (B : Int) ^ i = w at *
          omega
      rw [hc0, Int.mul_zero] at hv
      have e : (V B a).toNat = n - m := by rw [hv]; omega
      rw [← e]
      refine bd (carried_f a (fun x hx => ?_) (by rw [hf.len]; omega)) (rfl)
      have := hf.all x hx
      omega
  | succ q ih =>
    intro i a c hi hc hf hv
    have hx := D9_at n i
    have hy := D9_at m i
    have ha := hf.len
    obtain ⟨s, hs⟩ : ∃ s, s = (D9 n).getD i 0 + 1000000000 - (D9 m).getD i 0 - c := ⟨_, rfl⟩
    refine Eq.trans (b := nat_number_less.l0 (D9 n) (D9 m) (a.set i (s % 1000000000)) (1 - s / 1000000000) ((D9 n).length : Int) ((i + 1 : Nat) : Int)) ?_ (ih (i + 1) _ _ (by omega) (by omega) (hf.set ⟨by omega, by omega⟩) ?_)
    · rw [nat_number_less.l0_eq]
      unfold nat_number_less.s0
      rw [yp (by omega), at_f, at_f]
      simp only [Option.bind_some]
      rw [yp (by omega), yp (by omega), wu (x := _ + _) (by omega) (by omega), wu (x := (D9 n).getD i 0 + 1000000000 - (D9 m).getD i 0) (by omega) (by omega), wu (x := (D9 n).getD i 0 + 1000000000 - (D9 m).getD i 0 - c) (by omega) (by omega), ← hs, tm _ (by omega), td _ (by omega), wu (x := s / _) (by omega) (by omega), wu (by omega) (by omega), w64 (by omega) (by omega)]
      rfl
    · rw [hf.val B _ (by omega), hv, V_take_next, V_take_next, Int.pow_succ, Int.mul_assoc]
      have e : (D9 n).getD i 0 - (D9 m).getD i 0 + (B : Int) * (1 - s / 1000000000) = c + s % 1000000000 := by
        show _ + 1000000000 * _ = _
        omega
      generalize V B ((D9 n).take i) = p at *
      generalize V B ((D9 m).take i) = q at *
      generalize (B : Int) ^ i = w at *
      have e2 : w * ((D9 n).getD i 0 - (D9 m).getD i 0 + (B : Int) * (1 - s / 1000000000)) = w * (c + s % 1000000000) := by rw [e]
      rw [Int.mul_add, Int.mul_sub, Int.mul_add] at e2
      omega
theorem less_f (n m : Nat) (hnm : m ≤ n) (h1 : (D9 n).length ≤ 1000000) : nat_number_less.f (D9 n) (D9 m) = some (D9 (n - m)) := by
  refine Eq.trans ?_ (less_l0 n m hnm h1 (D9 n).length 0 _ 0 (by omega) (by omega) (Fill.start (by omega) _) (by rw [V_replicate]; simp [V]))
  unfold nat_number_less.f
  rw [yp (by omega), yp (by omega)]
  simp only [Option.bind_some, List.length_replicate, Int.toNat_natCast]
  rfl

/-- Less, equal, more. -/
def sgn (x y : Int) : Int := if x < y then -1 else if y < x then 1 else 0
theorem sgn_le {x y : Int} : sgn x y ≤ 0 ↔ x ≤ y := by
  unfold sgn
  split
  · omega
  · split <;> omega
theorem sgn_lt {x y : Int} : sgn x y < 0 ↔ x < y := by
  unfold sgn
  split
  · omega
  · split <;> omega
theorem cmpI_f (x y : Int) : cmp_Compare_int_.f x y = some (sgn x y) := by
  unfold cmp_Compare_int_.f cmp_isNaN_int_.f sgn
  simp only [Yc.h]
  by_cases h1 : x < y <;> by_cases h2 : y < x <;> simp [h1, h2]
theorem cmpU_f (x y : Int) : cmp_Compare_uint64_.f x y = some (sgn x y) := by
  unfold cmp_Compare_uint64_.f cmp_isNaN_uint64_.f sgn
  simp only [Yc.h]
  by_cases h1 : x < y <;> by_cases h2 : y < x <;> simp [h1, h2]
theorem compare_out (s i : Int) (a b : List Int) (h : i < 0 ∨ s ≠ 0) : nat_number_compare.l0 a b s i = some s := by
  rw [nat_number_compare.l0_eq]
  unfold nat_number_compare.s0
  by_cases hi : 0 ≤ i
  · rw [yp hi, yn (by omega)]
  · rw [yn hi]
theorem compare_l0 (n m : Nat) : ∀ (i : Nat), i ≤ 1000000 → nat_number_compare.l0 (D9 n) (D9 m) 0 ((i : Int) - 1) = some (sgn (V B ((D9 n).take i)) (V B ((D9 m).take i))) := by
  intro i
  induction i with
  | zero => intro _; exact compare_out 0 _ _ _ (by omega)
  | succ i ih =>
    intro hi
    refine Eq.trans (b := nat_number_compare.l0 (D9 n) (D9 m) (sgn ((D9 n).getD i 0) ((D9 m).getD i 0)) ((i : Int) - 1)) ?_ ?_
    · rw [nat_number_compare.l0_eq]
      unfold nat_number_compare.s0
      rw [yp (by omega), yp (by omega), show ((i + 1 : Nat) : Int) - 1 = (i : Int) by omega, at_f, at_f]
      simp only [Option.bind_some]
      rw [cmpU_f, w64 (by omega) (by omega)]
      rfl
    rw [V_take_next, V_take_next]
    have h1 : V B ((D9 n).take i) < (B : Int) ^ i := by rw [D_take B2]; exact_mod_cast Nat.mod_lt n (Nat.pow_pos (by decide))
    have h2 : V B ((D9 m).take i) < (B : Int) ^ i := by rw [D_take B2]; exact_mod_cast Nat.mod_lt m (Nat.pow_pos (by decide))
    have h3 : 0 ≤ V B ((D9 n).take i) := by rw [D_take B2]; exact Int.natCast_nonneg _
    have h4 : 0 ≤ V B ((D9 m).take i) := by rw [D_take B2]; exact Int.natCast_nonneg _
    generalize (D9 n).getD i 0 = x
    generalize (D9 m).getD i 0 = y
    have ih' := ih (by omega)
    generalize V B ((D9 n).take i) = p at *
    generalize V B ((D9 m).take i) = q at *
    generalize (B : Int) ^ i = w at *
    rcases Int.lt_trichotomy x y with h | h | h
    · have hm : w * (x + 1) ≤ w * y := Int.mul_le_mul_of_nonneg_left (by omega) (by omega)
      rw [Int.mul_add, Int.mul_one] at hm
      rw [show sgn (p + w * x) (q + w * y) = -1 from by unfold sgn; rw [if_pos (by omega)], show sgn x y = -1 from by unfold sgn; rw [if_pos (by omega)]]
      exact compare_out _ _ _ _ (by omega)
    · subst h
      rw [show sgn (p + w * x) (q + w * x) = sgn p q from by unfold sgn; split <;> split <;> first | rfl | omega | (split <;> first | rfl | omega | (split <;> first | rfl | omega)), show sgn x x = 0 from by unfold sgn; simp]
      exact ih'
    · have hm : w * (y + 1) ≤ w * x := Int.mul_le_mul_of_nonneg_left (by omega) (by omega)
      rw [Int.mul_add, Int.mul_one] at hm
      rw [show sgn (p + w * x) (q + w * y) = 1 from by unfold sgn; rw [if_neg (by omega), if_pos (by omega)], show sgn x y = 1 from by unfold sgn; rw [if_neg (by omega), if_pos (by omega)]]
      exact compare_out _ _ _ _ (by omega)
theorem compare_f (n m : Nat) (h1 : (D9 n).length ≤ 1000000) : nat_number_compare.f (D9 n) (D9 m) = some (sgn n m) := by
  have hu : nat_number_compare.f (D9 n) (D9 m) = nat_number_compare.l0 (D9 n) (D9 m) (sgn ((D9 n).length : Int) ((D9 m).length : Int)) (((D9 n).length : Int) - 1) := by
    unfold nat_number_compare.f
    rw [cmpI_f, w64 (by omega) (by omega)]
    rfl
  refine hu.trans ?_
  rcases Nat.lt_trichotomy (D9 n).length (D9 m).length with h | h | h
  · have hlt : n < m := by
      rcases Nat.lt_or_ge n m with h' | h'
      · exact h'
      · have : (D9 m).length ≤ (D9 n).length := D_len_mono B2 h'
        omega
    rw [show sgn (n : Int) m = -1 from by unfold sgn; rw [if_pos (by omega)], show sgn ((D9 n).length : Int) ((D9 m).length : Int) = -1 from by unfold sgn; rw [if_pos (by omega)]]
    exact compare_out _ _ _ _ (by omega)
  · have := compare_l0 n m (D9 n).length h1
    rw [List.take_of_length_le (by omega), List.take_of_length_le (by omega), D9_V, D9_V] at this
    rw [show sgn ((D9 n).length : Int) ((D9 m).length : Int) = 0 from by unfold sgn; rw [if_neg (by omega), if_neg (by omega)]]
    exact this
  · have hlt : m < n := by
      rcases Nat.lt_or_ge m n with h' | h'
      · exact h'
      · have : (D9 n).length ≤ (D9 m).length := D_len_mono B2 h'
        omega
    rw [show sgn (n : Int) m = 1 from by unfold sgn; rw [if_neg (by omega), if_pos (by omega)], show sgn ((D9 n).length : Int) ((D9 m).length : Int) = 1 from by unfold sgn; rw [if_neg (by omega), if_pos (by omega)]]
    exact compare_out _ _ _ _ (by omega)
end Go.Proofs.YtbjgmnliholmpaaDoor.M

/- What the functions of package nat compute, in plain Lean over their printed forms: times, scaled, digit, parted. -/
namespace Go.Proofs.YtbjgmnliholmpaaDoor.M
open Go Go.RowKit Go.Proofs.YtbjgmnliholmpaaDoor.V Go.Proofs.YtbjgmnliholmpaaDoor.X
variable [Yc]
set_option linter.unusedSectionVars false

theorem pow_pos' (i : Nat) : 0 < (B : Int) ^ i := Int.pow_pos (by decide)
/-- One cell of the inner row. -/
theorem cell {a : List Int} (ha : Dig B a) {p : Nat} (hp : p < a.length) {c : Int} (hc : 0 ≤ c ∧ c < 10000000000) {x y : Int} (hx : 0 ≤ x ∧ x < 1000000000) (hy : 0 ≤ y ∧ y < 1000000000) (hpl : a.length ≤ 3000000) (i j : Nat) (hij : i + j = p) :
    ∃ s : Int, s = c + (a.getD p 0 + x * y) ∧ (0 ≤ s ∧ s < 10000000000000000000) ∧ Int.tmod (IntKind.u64.wrap (c + (IntKind.u64.wrap ((rd a (wrap64 ((i : Int) + (j : Int)))) + (IntKind.u64.wrap (x * y)))))) 1000000000 = s % 1000000000 ∧
      IntKind.u64.wrap (Int.tdiv (IntKind.u64.wrap (c + (IntKind.u64.wrap ((rd a (wrap64 ((i : Int) + (j : Int)))) + (IntKind.u64.wrap (x * y)))))) 1000000000) = s / 1000000000 ∧
      (0 ≤ s / 1000000000 ∧ s / 1000000000 < 10000000000) ∧ Dig B (a.set p (s % 1000000000)) ∧
      V B (a.set p (s % 1000000000)) + (B : Int) ^ (i + (j + 1)) * (s / 1000000000) = V B a + (B : Int) ^ (i + j) * c + (B : Int) ^ i * ((B : Int) ^ j * (x * y)) := by
  have hm0 : 0 ≤ x * y := Int.mul_nonneg hx.1 hy.1
  have hm1 : x * y ≤ 999999999 * 999999999 := Int.mul_le_mul (by omega) (by omega) hy.1 (by omega)
  have ha' := getD_mem (P := fun x => 0 ≤ x ∧ x < 1000000000) ha (by omega) p
  have hr : rd a (wrap64 ((i : Int) + (j : Int))) = a.getD p 0 := by
    rw [w64 (by omega) (by omega), show (i : Int) + j = (p : Int) by omega, rd_nat]
  refine ⟨_, rfl, ⟨by omega, by omega⟩, ?_, ?_, ⟨by omega, by omega⟩, mem_set ha ⟨by omega, by show _ < (1000000000 : Int); omega⟩ p, ?_⟩
  · rw [hr, wu (x := x * y) (by omega) (by omega), wu (x := a.getD p 0 + _) (by omega) (by omega), wu (by omega) (by omega), tm _ (by omega)]
  · rw [hr, wu (x := x * y) (by omega) (by omega), wu (x := a.getD p 0 + _) (by omega) (by omega), wu (x := c + _) (by omega) (by omega), td _ (by omega), wu (by omega) (by omega)]
  · obtain ⟨s, hs⟩ : ∃ s, s = c + (a.getD p 0 + x * y) := ⟨_, rfl⟩
    rw [← hs, V_set a p _ hp, ← Int.mul_assoc ((B : Int) ^ i), ← Int.pow_add, hij, show i + (j + 1) = p + 1 by omega, Int.pow_succ, Int.mul_assoc]
    have e : s % 1000000000 - a.getD p 0 + (B : Int) * (s / 1000000000) = c + x * y := by
      show _ + 1000000000 * _ = _
      omega
    have e2 : (B : Int) ^ p * (s % 1000000000 - a.getD p 0 + (B : Int) * (s / 1000000000)) = (B : Int) ^ p * (c + x * y) := by rw [e]
    rw [Int.mul_add, Int.mul_add] at e2
    omega

theorem times_l1 (n m : Nat) (h1 : (D9 n).length ≤ 1000000) (h2 : (D9 m).length ≤ 1000000) (i : Nat) (hi : i < (D9 n).length)
    (q : Nat) : ∀ (j : Nat) (a : List Int) (c : Int), i + j + q = (D9 n).length + (D9 m).length + 1 → (0 ≤ c ∧ c < 10000000000) → a.length = (D9 n).length + (D9 m).length + 1 → Dig B a →
    V B a + (B : Int) ^ (i + j) * c = V B ((D9 n).take i) * m + (B : Int) ^ i * ((D9 n).getD i 0 * V B ((D9 m).take j)) →
    ∃ a' : List Int, a'.length = (D9 n).length + (D9 m).length + 1 ∧ Dig B a' ∧ V B a' = V B ((D9 n).take (i + 1)) * m ∧
      ∀ R, nat_number_times.l0 (D9 m) a' (D9 n) ((D9 n).length : Int) ((i + 1 : Nat) : Int) = some R → nat_number_times.l1 nat_number_times.l0 (D9 m) a (i : Int) ((D9 n).getD i 0) c (j : Int) (D9 n) ((D9 n).length : Int) (i : Int) = some R := by
  have hB : V B ((D9 n).take (i + 1)) < (B : Int) ^ (i + 1) := by rw [D_take B2]; exact_mod_cast Nat.mod_lt n (Nat.pow_pos (by decide))
  have hx := D9_at n i
  have hmV : (m : Int) < (B : Int) ^ (D9 m).length := by
    have := (D_len B2 (n := m)).1 (Nat.le_refl _)
    exact_mod_cast this
  have htop : V B ((D9 n).take (i + 1)) * m < (B : Int) ^ (i + 1 + (D9 m).length) := by
    rw [D_take B2] at hB ⊢
    rw [Int.pow_add]
    have := Nat.mul_lt_mul'' (a := n % B ^ (i + 1)) (b := m) (c := B ^ (i + 1)) (d := B ^ (D9 m).length) (Nat.mod_lt n (Nat.pow_pos (by decide))) ((D_len B2 (n := m)).1 (Nat.le_refl _))
    exact_mod_cast this
  have hend : ∀ j, (D9 m).length ≤ j → V B ((D9 n).take i) * m + (B : Int) ^ i * ((D9 n).getD i 0 * V B ((D9 m).take j)) = V B ((D9 n).take (i + 1)) * m := by
    intro j hj
    rw [List.take_of_length_le hj, D9_V, V_take_next, Int.add_mul, Int.mul_assoc]
  induction q with
  | zero =>
    intro j a c hq hc hl ha hv
    -- i + j is behind the row: the carry is nought
    have hj : (D9 m).length ≤ j := by omega
    rw [hend j hj] at hv
    have hV := V_nonneg (b := (B : Int)) (by decide) ha.nonneg
    have hc0 : c = 0 := by
      rcases (show c = 0 ∨ 1 ≤ c by omega) with h | h
      · exact h
      · have e1 : (B : Int) ^ (i + j) * 1 ≤ (B : Int) ^ (i + j) * c := Int.mul_le_mul_of_nonneg_left h (by have := pow_pos' (i + j); omega)
        have e2 : (B : Int) ^ (i + 1 + (D9 m).length) ≤ (B : Int) ^ (i + j) := by
          exact_mod_cast Nat.pow_le_pow_right (n := B) (by decide) (show i + 1 + (D9 m).length ≤ i + j by omega)
        generalize (B : Int) ^ (i + j) = w at *
        generalize V B ((D9 n).take (i + 1)) * m = p at *
        generalize (B : Int) ^ (i + 1 + (D9 m).length) = r at *
        omega
    subst hc0
    rw [Int.mul_zero, Int.add_zero] at hv
    refine ⟨a, hl, ha, hv, fun R hR => Eq.trans (b := nat_number_times.l0 (D9 m) a (D9 n) ((D9 n).length : Int) ((i + 1 : Nat) : Int)) ?_ hR⟩
    rw [nat_number_times.l1_eq]
    unfold nat_number_times.s1
    rw [yn (by omega), yn (by omega), w64 (by omega) (by omega)]
    rfl
  | succ q ih =>
    intro j a c hq hc hl ha hv
    by_cases hj : j < (D9 m).length
    · have hy := D9_at m j
      obtain ⟨s, hs, hs', e1, e2, hc', hd', hv'⟩ := cell ha (p := i + j) (by omega) hc hx hy (by omega) i j rfl
      obtain ⟨a', b1, b2, b3, b4⟩ := ih (j + 1) (a.set (i + j) (s % 1000000000)) (s / 1000000000) (by omega) hc' (by rw [List.length_set, hl]) hd' (by
        rw [hv', hv, V_take_next (D9 m) j, Int.mul_add ((D9 n).getD i 0), Int.mul_add ((B : Int) ^ i)]
        have : (B : Int) ^ j * ((D9 n).getD i 0 * (D9 m).getD j 0) = (D9 n).getD i 0 * ((B : Int) ^ j * (D9 m).getD j 0) := by
          rw [← Int.mul_assoc, ← Int.mul_assoc, Int.mul_comm ((B : Int) ^ j)]
        rw [this, Int.add_assoc])
      refine ⟨a', b1, b2, b3, fun R hR => Eq.trans ?_ (b4 R hR)⟩
      rw [nat_number_times.l1_eq]
      unfold nat_number_times.s1
      rw [yp (by omega), yp (by rw [w64 (by omega) (by omega)]; omega), yp (by rw [w64 (by omega) (by omega)]; omega), at_f]
      simp only [Option.bind_some]
      rw [yp (by rw [w64 (by omega) (by omega)]; omega), yp (by rw [w64 (by omega) (by omega)]; omega), e1, e2, w64 (x := (i : Int) + j) (by omega) (by omega), show ((i : Int) + j).toNat = i + j by omega, w64 (by omega) (by omega)]
      rfl
    · by_cases hc0 : c = 0
      · subst hc0
        rw [hend j (by omega), Int.mul_zero, Int.add_zero] at hv
        refine ⟨a, hl, ha, hv, fun R hR => Eq.trans (b := nat_number_times.l0 (D9 m) a (D9 n) ((D9 n).length : Int) ((i + 1 : Nat) : Int)) ?_ hR⟩
        rw [nat_number_times.l1_eq]
        unfold nat_number_times.s1
        rw [yn (by omega), yn (by omega), w64 (by omega) (by omega)]
        rfl
      · have h0 : (D9 m).getD j 0 = 0 := by rw [List.getD_eq_getElem?_getD, List.getElem?_eq_none (by omega)]; rfl
        obtain ⟨s, hs, hs', e1, e2, hc', hd', hv'⟩ := cell ha (p := i + j) (by omega) hc hx (y := (D9 m).getD j 0) (by omega) (by omega) i j rfl
        obtain ⟨a', b1, b2, b3, b4⟩ := ih (j + 1) (a.set (i + j) (s % 1000000000)) (s / 1000000000) (by omega) hc' (by rw [List.length_set, hl]) hd' (by
          rw [hv', hv, hend j (by omega), hend (j + 1) (by omega), h0]
          simp)
        refine ⟨a', b1, b2, b3, fun R hR => Eq.trans ?_ (b4 R hR)⟩
        rw [nat_number_times.l1_eq]
        unfold nat_number_times.s1
        rw [yn (by omega), yp (by omega), yp (by rw [w64 (by omega) (by omega)]; omega), yp (by rw [w64 (by omega) (by omega)]; omega), at_f]
        simp only [Option.bind_some]
        rw [yp (by rw [w64 (by omega) (by omega)]; omega), yp (by rw [w64 (by omega) (by omega)]; omega), e1, e2, w64 (x := (i : Int) + j) (by omega) (by omega), show ((i : Int) + j).toNat = i + j by omega, w64 (by omega) (by omega)]
        rfl

theorem times_l0 (n m : Nat) (h1 : (D9 n).length ≤ 1000000) (h2 : (D9 m).length ≤ 1000000) (q : Nat) : ∀ (i : Nat) (a : List Int), i + q = (D9 n).length →
    a.length = (D9 n).length + (D9 m).length + 1 → Dig B a → V B a = V B ((D9 n).take i) * m →
    nat_number_times.l0 (D9 m) a (D9 n) ((D9 n).length : Int) (i : Int) = some (D9 (n * m)) := by
  induction q with
  | zero =>
    intro i a hq hl ha hv
    rw [List.take_of_length_le (by omega), D9_V] at hv
    refine Eq.trans (b := (nat_carried.f a).bind fun t => some t) ?_ ?_
    · rw [nat_number_times.l0_eq]
      unfold nat_number_times.s0
      rw [yn (by omega)]
    · have e : (V B a).toNat = n * m := by rw [hv, ← Int.natCast_mul]; rfl
      rw [← e]
      refine bd (carried_f a (fun x hx => ?_) (by omega)) (rfl)
      have := Dig9 ha x hx
      omega
  | succ q ih =>
    intro i a hq hl ha hv
    obtain ⟨a', b1, b2, b3, b4⟩ := times_l1 n m h1 h2 i (by omega) ((D9 n).length + (D9 m).length + 1 - i) 0 a 0 (by omega) (by omega) hl ha (by simpa [V] using hv)
    refine Eq.trans (b := nat_number_times.l1 nat_number_times.l0 (D9 m) a (i : Int) ((D9 n).getD i 0) 0 ((0 : Nat) : Int) (D9 n) ((D9 n).length : Int) (i : Int)) ?_ (b4 _ (ih (i + 1) a' (by omega) b1 b2 b3))
    rw [nat_number_times.l0_eq]
    unfold nat_number_times.s0
    rw [yp (by omega), yp (by omega), yp (by omega), rd_nat]
    rfl
theorem times_f (n m : Nat) (h1 : (D9 n).length ≤ 1000000) (h2 : (D9 m).length ≤ 1000000) : nat_number_times.f (D9 n) (D9 m) = some (D9 (n * m)) := by
  refine Eq.trans ?_ (times_l0 n m h1 h2 (D9 n).length 0 (List.replicate ((D9 n).length + (D9 m).length + 1) 0) (by omega) (by simp) (Fill.start (P := fun x => 0 ≤ x ∧ x < ((B : Nat) : Int)) (by decide) _).all (by rw [V_replicate]; simp [V]))
  unfold nat_number_times.f
  rw [w64 (x := ((D9 n).length : Int) + _) (by omega) (by omega), w64 (by omega) (by omega), yp (by omega), yp (by omega), show (((D9 n).length : Int) + ((D9 m).length : Int) + 1).toNat = (D9 n).length + (D9 m).length + 1 by omega]
  rfl
theorem one_f (x : Nat) (h : x < 9223372036854775808) : nat_carried.f [(x : Int)] = some (D9 x) := by
  have := carried_f [(x : Int)] (fun y hy => by rw [List.mem_singleton] at hy; omega) (by simp)
  simpa [V] using this
theorem D9_small {x : Nat} (h : x < 1000000000000000000) : (D9 x).length ≤ 2 := (D_len B2).2 (by show x < 1000000000 ^ 2; omega)
theorem scaled_f (n x : Nat) (h1 : (D9 n).length ≤ 1000000) (hx : x < 1000000000000000000) : nat_number_scaled.f (D9 n) (x : Int) = some (D9 (n * x)) := by
  unfold nat_number_scaled.f
  refine bd (one_f x (by omega)) (bd (times_f n x h1 (by have := D9_small hx; omega)) (rfl))

theorem digit_l0 (r d : Nat) (hd : 0 < d) (h1 : (D9 d).length ≤ 900000) (q : Nat) : ∀ (lo hi : Nat), hi - lo ≤ q → lo ≤ r / d → r / d ≤ hi → hi < 1000000000 →
    nat_number_digit.l0 (D9 r) (D9 d) (lo : Int) (hi : Int) = some ((r / d : Nat) : Int) := by
  induction q with
  | zero =>
    intro lo hi hq h2 h3 h4
    refine Eq.trans (b := some (lo : Int)) ?_ ?_
    · rw [nat_number_digit.l0_eq]
      unfold nat_number_digit.s0
      rw [yn (by omega)]
    · rw [show lo = r / d by omega]
  | succ q ih =>
    intro lo hi hq h2 h3 h4
    by_cases hlt : lo < hi
    · obtain ⟨p, hp⟩ : ∃ p, p = (lo + hi + 1) / 2 := ⟨_, rfl⟩
      have hlen : (D9 (d * p)).length ≤ 1000000 := by
        have e1 : (D9 (d * p)).length ≤ (D9 d).length + (D9 p).length := D_len_mul B2 d p
        have e2 := D9_small (x := p) (by omega)
        omega
      refine Eq.trans (b := (nat_number_scaled.f (D9 d) (p : Int)).bind fun t => (nat_number_compare.f t (D9 r)).bind fun u => bif Yc.y (decide (u ≤ 0)) then nat_number_digit.l0 (D9 r) (D9 d) (p : Int) (hi : Int) else nat_number_digit.l0 (D9 r) (D9 d) (lo : Int) ((p - 1 : Nat) : Int)) ?_ ?_
      · rw [nat_number_digit.l0_eq]
        unfold nat_number_digit.s0
        rw [yp (by omega), wu (x := (lo : Int) + hi) (by omega) (by omega), wu (x := (lo : Int) + hi + 1) (by omega) (by omega), td _ (by omega), wu (x := ((lo : Int) + hi + 1) / 2) (by omega) (by omega), wu (by omega) (by omega), show ((lo : Int) + hi + 1) / 2 = (p : Int) by omega, show (p : Int) - 1 = ((p - 1 : Nat) : Int) by omega]
      · refine bd (scaled_f d p (by omega) (by omega)) (bd (compare_f (d * p) r hlen) ?_)
        by_cases hle : d * p ≤ r
        · have : p ≤ r / d := (Nat.le_div_iff_mul_le hd).2 (by rw [Nat.mul_comm]; exact hle)
          exact (yp (sgn_le.2 (by omega))).trans (ih p hi (by omega) this h3 h4)
        · have : r / d < p := (Nat.div_lt_iff_lt_mul hd).2 (by rw [Nat.mul_comm]; omega)
          exact (yn (fun h => by rw [sgn_le] at h; omega)).trans (ih lo (p - 1) (by omega) h2 (by omega) (by omega))
    · refine Eq.trans (b := some (lo : Int)) ?_ ?_
      · rw [nat_number_digit.l0_eq]
        unfold nat_number_digit.s0
        rw [yn (by omega)]
      · rw [show lo = r / d by omega]
theorem digit_f (r d : Nat) (hr : r < d * B) (h1 : (D9 d).length ≤ 900000) : nat_number_digit.f (D9 r) (D9 d) = some ((r / d : Nat) : Int) := by
  have hd : 0 < d := by
    rcases Nat.eq_zero_or_pos d with h | h
    · subst h; omega
    · exact h
  have : r / d < B := (Nat.div_lt_iff_lt_mul hd).2 (by rw [Nat.mul_comm]; exact hr)
  refine Eq.trans rfl (digit_l0 r d hd h1 1000000000 0 999999999 (by omega) (Nat.zero_le _) ?_ (by omega))
  have h2 : r / d < 1000000000 := this
  omega

theorem parted_l0 (n d : Nat) (hd : 0 < d) (h1 : (D9 n).length ≤ 800000) (h2 : (D9 d).length ≤ 800000) : ∀ (i : Nat) (a : List Int) (r : Nat), i ≤ (D9 n).length →
    a.length = (D9 n).length → Dig B a → r < d → V B ((D9 n).drop i) = d * V B (a.drop i) + r →
    nat_number_parted.l0 (D9 n) (D9 d) (D9 r) a ((i : Int) - 1) = some (D9 (n / d), D9 (n % d)) := by
  intro i
  induction i with
  | zero =>
    intro a r hi hl ha hr hv
    refine Eq.trans (b := (nat_carried.f a).bind fun t => some (t, D9 r)) ?_ ?_
    · rw [nat_number_parted.l0_eq]
      unfold nat_number_parted.s0
      rw [yn (by omega)]
    · simp only [List.drop_zero, D9_V] at hv
      have hV := V_nonneg (b := (B : Int)) (by decide) ha.nonneg
      obtain ⟨v, hv'⟩ : ∃ v : Nat, V B a = v := ⟨(V B a).toNat, by omega⟩
      have e : n = d * v + r := by rw [hv'] at hv; exact_mod_cast hv
      have e1 : n / d = v := by rw [e, Nat.mul_add_div hd, Nat.div_eq_of_lt hr, Nat.add_zero]
      have e2 : n % d = r := by rw [e, Nat.mul_add_mod, Nat.mod_eq_of_lt hr]
      rw [e1, e2, show v = (V B a).toNat by omega]
      refine bd (carried_f a (fun x hx => ?_) (by omega)) (rfl)
      have := Dig9 ha x hx
      omega
  | succ i ih =>
    intro a r hi hl ha hr hv
    have hx := D9_at n i
    obtain ⟨x, hx'⟩ : ∃ x : Nat, (D9 n).getD i 0 = x := ⟨((D9 n).getD i 0).toNat, by omega⟩
    rw [hx'] at hx
    obtain ⟨s, hs⟩ : ∃ s, s = x + B * r := ⟨_, rfl⟩
    have hsd : s < d * B := by
      have e1 : B * (r + 1) ≤ B * d := Nat.mul_le_mul_left _ (by omega)
      rw [Nat.mul_add, Nat.mul_comm B d] at e1
      have e2 : x < B := by show x < 1000000000; omega
      omega
    have hrl : (D9 r).length ≤ 800000 := by
      have : (D9 r).length ≤ (D9 d).length := D_len_mono B2 (by omega)
      omega
    have hq : s / d < B := (Nat.div_lt_iff_lt_mul hd).2 (by rw [Nat.mul_comm]; exact hsd)
    have hq' : s / d < 1000000000 := hq
    have hsl : (D9 s).length ≤ 900000 := by
      have e1 : (D9 s).length ≤ (D9 (d * B)).length := D_len_mono B2 (by omega)
      have e2 : (D9 (d * B)).length ≤ (D9 d).length + (D9 B).length := D_len_mul B2 d B
      have e3 := D9_small (x := B) (by decide)
      omega
    have e0 : nat_carried.f ([(x : Int)] ++ D9 r) = some (D9 s) := by
      have := carried_f ([(x : Int)] ++ D9 r) (fun y hy => by
        rcases List.mem_append.1 hy with h | h
        · rw [List.mem_singleton] at h; omega
        · have := D9_lt r y h; omega) (by simp; omega)
      rw [List.singleton_append, V, D9_V] at this
      have e : ((x : Int) + (B : Int) * (r : Int)).toNat = s := by rw [hs, ← Int.natCast_mul, ← Int.natCast_add]; rfl
      rw [e] at this
      exact this
    have hmul : d * (s / d) ≤ s := Nat.mul_div_le s d
    have hsub : s - d * (s / d) = s % d := by have := Nat.div_add_mod s d; omega
    refine Eq.trans (b := nat_number_parted.l0 (D9 n) (D9 d) (D9 (s - d * (s / d))) (a.set i ((s / d : Nat) : Int)) ((i : Int) - 1)) ?_ ?_
    · rw [nat_number_parted.l0_eq]
      unfold nat_number_parted.s0
      rw [yp (by omega), show ((i + 1 : Nat) : Int) - 1 = (i : Int) by omega, at_f]
      simp only [Option.bind_some]
      rw [yp (by omega), hx', e0]
      simp only [Option.bind_some]
      rw [digit_f s d hsd (by omega)]
      simp only [Option.bind_some]
      rw [yp (by omega), yp (by omega), yp (by omega), yp (by rw [Int.toNat_natCast, List.length_set]; omega), Int.toNat_natCast, rd_nat, getD_set_eq _ (by omega), scaled_f d (s / d) (by omega) (by omega)]
      simp only [Option.bind_some]
      rw [less_f s (d * (s / d)) hmul (by omega), w64 (by omega) (by omega)]
      rfl
    · show nat_number_parted.l0 _ _ _ _ _ = _
      rw [hsub]
      refine ih (a.set i ((s / d : Nat) : Int)) (s % d) (by omega) (by rw [List.length_set, hl]) (mem_set ha ⟨Int.natCast_nonneg _, Int.ofNat_lt.2 hq⟩ i) (Nat.mod_lt _ hd) ?_
      rw [V_getD (D9 n) i, hv, hx', V_getD (a.set i _) i, getD_set_eq _ (by omega), List.drop_set_of_lt (by omega)]
      have hm := Nat.div_add_mod s d
      have hm' : ((d * (s / d) + s % d : Nat) : Int) = x + B * r := by rw [hm, hs]; simp
      rw [Int.natCast_add, Int.natCast_mul] at hm'
      have hc : (d : Int) * ((B : Int) * V B (a.drop (i + 1))) = (B : Int) * ((d : Int) * V B (a.drop (i + 1))) := by rw [← Int.mul_assoc, ← Int.mul_assoc, Int.mul_comm (d : Int)]
      rw [Int.mul_add, Int.mul_add, hc]
      generalize (B : Int) * ((d : Int) * V B (a.drop (i + 1))) = p at *
      generalize (d : Int) * ((s / d : Nat) : Int) = u at *
      generalize ((s % d : Nat) : Int) = t at *
      omega
theorem parted_f (n d : Nat) (hd : 0 < d) (h1 : (D9 n).length ≤ 800000) (h2 : (D9 d).length ≤ 800000) : nat_number_parted.f (D9 n) (D9 d) = some (D9 (n / d), D9 (n % d)) := by
  have := parted_l0 n d hd h1 h2 (D9 n).length (List.replicate (D9 n).length 0) 0 (by omega) (by simp) (Fill.start (P := fun x => 0 ≤ x ∧ x < ((B : Nat) : Int)) (by decide) _).all hd (by simp [V])
  refine Eq.trans ?_ this
  unfold nat_number_parted.f
  rw [yp (by omega), yp (by omega)]
  simp only [Option.bind_some, List.length_replicate, Int.toNat_natCast]
  rw [w64 (by omega) (by omega), show D9 0 = [] from D_zero B]
end Go.Proofs.YtbjgmnliholmpaaDoor.M

/- What the exported functions of package nat compute, in plain Lean over their printed forms: Add, Mul, DivMod; and SameLimbs. -/
namespace Go.Proofs.YtbjgmnliholmpaaDoor.M
open Go Go.RowKit Go.Proofs.YtbjgmnliholmpaaDoor.V Go.Proofs.YtbjgmnliholmpaaDoor.X
variable [Yc]
set_option linter.unusedSectionVars false

/-- The number that a row stands for. -/
def val (l : List Int) : Nat := (V B l).toNat
theorem val_D (n : Nat) : val (D9 n) = n := by unfold val; rw [D9_V]; rfl
/-- A row that a caller may hand in, of at most N digits. -/
def Row (N : Nat) (l : List Int) : Prop := U32 l ∧ l.length ≤ N
theorem Row.D {N n : Nat} (h : (D9 n).length ≤ N) : Row N (D9 n) := ⟨fun x hx => by have := D9_lt n x hx; omega, h⟩
theorem Row.le {N M : Nat} {l : List Int} (h : Row N l) (hm : N ≤ M) : Row M l := ⟨h.1, by have := h.2; omega⟩
theorem Row.len {N : Nat} {l : List Int} (h : Row N l) : (D9 (val l)).length ≤ N + 1 := by
  have h1 := D_len_V B2 (l := l) (fun x hx => by have := h.1 x hx; show 0 ≤ x ∧ x ≤ 1000000000 * 1000000000 - 1000000000; omega)
  have h2 := h.2
  unfold val
  show (M.D B _).length ≤ _
  omega
theorem Row.of {N : Nat} {l : List Int} (h : Row N l) (hN : N ≤ 100000) : nat_of.f l = some (D9 (val l)) := of_f l h.1 (by have := h.2; omega)
theorem rd_row_nat (L : List (List Int)) (i : Nat) : rd_row_u32 L (i : Int) = L.getD i [] := by unfold rd_row_u32; simp; rfl
theorem getD_append (p : List (List Int)) (x : List Int) (s : List (List Int)) : (p ++ x :: s).getD p.length [] = x := by simp [List.getD]

def sumV : List (List Int) → Nat
  | [] => 0
  | l :: L => val l + sumV L
def prodV : List (List Int) → Nat
  | [] => 1
  | l :: L => val l * prodV L
theorem plus_fold (s : List (List Int)) : ∀ (p : List (List Int)) (n : Nat), (∀ l ∈ s, Row 10000 l) → (D9 n).length + 10010 * s.length ≤ 900000 → p.length + s.length ≤ 1000 →
    nat_folded_at_nat_number_plus.l0 (D9 n) (p ++ s) ((p ++ s).length : Int) (p.length : Int) = some (D9 (n + sumV s)) := by
  induction s with
  | nil =>
    intro p n hs hn hp
    refine Eq.trans (b := (nat_number_row.f (D9 n)).bind fun t => some t) ?_ ?_
    · rw [nat_folded_at_nat_number_plus.l0_eq]
      unfold nat_folded_at_nat_number_plus.s0
      rw [yn (by simp)]
    · exact bd (row_f n (by omega)) (rfl)
  | cons l s ih =>
    intro p n hs hn hp
    have hl := hs l (by simp)
    simp only [List.length_cons] at hn hp
    refine Eq.trans (b := (nat_of.f l).bind fun t153 => (nat_number_plus.f (D9 n) t153).bind fun t156 => nat_folded_at_nat_number_plus.l0 t156 ((p ++ [l]) ++ s) (((p ++ [l]) ++ s).length : Int) ((p ++ [l]).length : Int)) ?_ ?_
    · rw [nat_folded_at_nat_number_plus.l0_eq]
      unfold nat_folded_at_nat_number_plus.s0
      rw [yp (by simp; omega), yp (by omega), yp (by simp; omega), rd_row_nat, getD_append, w64 (by omega) (by omega)]
      simp
    · have h1 := hl.len
      have h3 := hl.of (by decide)
      have h2 : (D9 (n + val l)).length ≤ (D9 n).length + (D9 (val l)).length + 1 := D_len_add B2 n (val l)
      refine bd h3 (bd (plus_f n (val l) (by omega) (by omega)) ?_)
      have e : n + sumV (l :: s) = n + val l + sumV s := by rw [sumV, Nat.add_assoc]
      rw [e]
      exact ih (p ++ [l]) (n + val l) (fun y hy => hs y (by simp [hy])) (by omega) (by simp; omega)
theorem times_fold (s : List (List Int)) : ∀ (p : List (List Int)) (n : Nat), (∀ l ∈ s, Row 10000 l) → (D9 n).length + 10010 * s.length ≤ 900000 → p.length + s.length ≤ 1000 →
    nat_folded_at_nat_number_times.l0 (D9 n) (p ++ s) ((p ++ s).length : Int) (p.length : Int) = some (D9 (n * prodV s)) := by
  induction s with
  | nil =>
    intro p n hs hn hp
    refine Eq.trans (b := (nat_number_row.f (D9 n)).bind fun t => some t) ?_ ?_
    · rw [nat_folded_at_nat_number_times.l0_eq]
      unfold nat_folded_at_nat_number_times.s0
      rw [yn (by simp)]
    · rw [prodV, Nat.mul_one]
      exact bd (row_f n (by omega)) (rfl)
  | cons l s ih =>
    intro p n hs hn hp
    have hl := hs l (by simp)
    simp only [List.length_cons] at hn hp
    refine Eq.trans (b := (nat_of.f l).bind fun t153 => (nat_number_times.f (D9 n) t153).bind fun t156 => nat_folded_at_nat_number_times.l0 t156 ((p ++ [l]) ++ s) (((p ++ [l]) ++ s).length : Int) ((p ++ [l]).length : Int)) ?_ ?_
    · rw [nat_folded_at_nat_number_times.l0_eq]
      unfold nat_folded_at_nat_number_times.s0
      rw [yp (by simp; omega), yp (by omega), yp (by simp; omega), rd_row_nat, getD_append, w64 (by omega) (by omega)]
      simp
    · have h1 := hl.len
      have h3 := hl.of (by decide)
      have h2 : (D9 (n * val l)).length ≤ (D9 n).length + (D9 (val l)).length := D_len_mul B2 n (val l)
      refine bd h3 (bd (times_f n (val l) (by omega) (by omega)) ?_)
      have e : n * prodV (l :: s) = n * val l * prodV s := by rw [prodV, Nat.mul_assoc]
      rw [e]
      exact ih (p ++ [l]) (n * val l) (fun y hy => hs y (by simp [hy])) (by omega) (by simp; omega)
theorem Add_f (L : List (List Int)) (hL : ∀ l ∈ L, Row 10000 l) (hn : L.length ≤ 20) : nat_Add.f L = some (D9 (sumV L)) := by
  have := plus_fold L [] 0 hL (by rw [show D9 0 = [] from D_zero B]; simp; omega) (by simp; omega)
  rw [Nat.zero_add, show D9 0 = [] from D_zero B] at this
  unfold nat_Add.f
  exact bd this (rfl)
theorem Mul_f (L : List (List Int)) (hL : ∀ l ∈ L, Row 10000 l) (hn : L.length ≤ 20) : nat_Mul.f L = some (D9 (prodV L)) := by
  have h1 : D9 1 = [1] := by show D B 1 = _; rw [D_pos B2 (by decide)]; show _ :: D B 0 = _; rw [D_zero]; rfl
  have := times_fold L [] 1 hL (by rw [h1]; simp; omega) (by simp; omega)
  rw [Nat.one_mul, h1] at this
  unfold nat_Mul.f
  exact bd this (rfl)

theorem D9_nil {n : Nat} : (D9 n).length = 0 ↔ n = 0 := by
  constructor
  · intro h
    have := (D_len B2 (n := n) (k := 0)).1 (by show (D9 n).length ≤ 0; omega)
    simp at this
    exact this
  · intro h; subst h; rw [show D9 0 = [] from D_zero B]; rfl
theorem DivMod_f (l r : List Int) (hl : Row 10000 l) (hr : Row 10000 r) : nat_DivMod.f l r = some (if val r = 0 then ([], [], false) else (D9 (val l / val r), D9 (val l % val r), true)) := by
  have h1 := hl.len
  have h2 := hr.len
  unfold nat_DivMod.f
  refine bd (hr.of (by omega)) ?_
  by_cases h : val r = 0
  · rw [if_pos h]
    have := D9_nil.2 h
    exact yp (by omega)
  · rw [if_neg h, yn (fun h0 => h (D9_nil.1 (by omega)))]
    have e1 : (D9 (val l / val r)).length ≤ (D9 (val l)).length := D_len_mono B2 (Nat.div_le_self _ _)
    have e2 : (D9 (val l % val r)).length ≤ (D9 (val l)).length := D_len_mono B2 (Nat.mod_le _ _)
    exact bd (hl.of (by omega)) (bd (parted_f _ _ (by omega) (by omega) (by omega)) (bd (row_f _ (by omega)) (bd (row_f _ (by omega)) (rfl))))

theorem limbs_l0 (a b : List Int) (he : a.length = b.length) (hl : a.length ≤ 1000000000) (q : Nat) : ∀ (i : Nat), i + q = a.length → a.take i = b.take i →
    whetstonekit_SameLimbs.l0 a b (i : Int) = some (decide (a = b)) := by
  induction q with
  | zero =>
    intro i hi ht
    rw [List.take_of_length_le (by omega), List.take_of_length_le (by omega)] at ht
    refine Eq.trans (b := some true) ?_ (by rw [decide_eq_true ht])
    rw [whetstonekit_SameLimbs.l0_eq]
    unfold whetstonekit_SameLimbs.s0
    rw [yn (by omega)]
  | succ q ih =>
    intro i hi ht
    by_cases h : a.getD i 0 = b.getD i 0
    · refine Eq.trans (b := whetstonekit_SameLimbs.l0 a b ((i + 1 : Nat) : Int)) ?_ (ih (i + 1) (by omega) ?_)
      · rw [whetstonekit_SameLimbs.l0_eq]
        unfold whetstonekit_SameLimbs.s0
        rw [yp (by omega), yp (by omega), yp (by omega), yp (by omega), yp (by omega), rd_nat, rd_nat, yf (by simp only [h]; simp), w64 (by omega) (by omega)]
        rfl
      · rw [List.take_succ_eq_append_getElem (by omega), List.take_succ_eq_append_getElem (by omega), ht]
        simp only [List.getD, show i < a.length by omega, show i < b.length by omega, List.getElem?_eq_getElem, Option.getD_some] at h
        rw [h]
    · refine Eq.trans (b := some false) ?_ (by rw [decide_eq_false (fun e => h (by rw [e]))])
      rw [whetstonekit_SameLimbs.l0_eq]
      unfold whetstonekit_SameLimbs.s0
      rw [yp (by omega), yp (by omega), yp (by omega), yp (by omega), yp (by omega), rd_nat, rd_nat, yb (by rw [decide_eq_false h]; rfl)]
theorem limbs_f (a b : List Int) (hl : a.length ≤ 1000000000) : whetstonekit_SameLimbs.f a b = some (decide (a = b)) := by
  unfold whetstonekit_SameLimbs.f
  by_cases h : a.length = b.length
  · rw [yf (by simp [h])]
    exact limbs_l0 a b h hl a.length 0 (by omega) (by simp)
  · rw [yb (by simp; omega), decide_eq_false (fun e => h (by rw [e]))]
end Go.Proofs.YtbjgmnliholmpaaDoor.M

/- What Trim, Cmp, Sub and Right compute, in plain Lean over their printed forms. -/
namespace Go.Proofs.YtbjgmnliholmpaaDoor.M
open Go Go.RowKit Go.Proofs.YtbjgmnliholmpaaDoor.V Go.Proofs.YtbjgmnliholmpaaDoor.X
variable [Yc]
set_option linter.unusedSectionVars false
theorem u32_wf {x : Int} (h : (Lit.int .u32 x).wf = true) : 0 ≤ x ∧ x < 4294967296 := by
  have h' : IntKind.u32.min ≤ x ∧ x ≤ IntKind.u32.max := by simpa [Lit.wf] using h
  rw [show IntKind.u32.min = 0 from rfl, show IntKind.u32.max = 4294967295 from rfl] at h'
  omega
theorem Trim_f (l : List Int) (h : Row 10000 l) : nat_Trim.f l = some (D9 (val l)) := by
  have h1 := h.len
  unfold nat_Trim.f
  exact bd (h.of (by omega)) (bd (row_f _ (by omega)) (rfl))
theorem Cmp_f (l r : List Int) (h : Row 10000 l) (h' : Row 10000 r) : nat_Cmp.f l r = some (sgn (val l) (val r)) := by
  have h1 := h.len
  unfold nat_Cmp.f
  exact bd (h.of (by omega)) (bd (h'.of (by omega)) (bd (compare_f _ _ (by omega)) (rfl)))
theorem Sub_f (l r : List Int) (h : Row 10000 l) (h' : Row 10000 r) : nat_Sub.f l r = some (if val l < val r then ([], false) else (D9 (val l - val r), true)) := by
  have h1 := h.len
  have h2 := h'.len
  unfold nat_Sub.f
  refine bd (h.of (by omega)) (bd (h'.of (by omega)) (bd (compare_f _ _ (by omega)) ?_))
  by_cases hl : val l < val r
  · rw [if_pos hl, yp (sgn_lt.2 (by omega))]
  · rw [if_neg hl, yn (fun h => hl (by have := sgn_lt.1 h; omega))]
    have e1 : (D9 (val l - val r)).length ≤ (D9 (val l)).length := D_len_mono B2 (Nat.sub_le _ _)
    exact bd (less_f _ _ (by omega) (by omega)) (bd (row_f _ (by omega)) rfl)
end Go.Proofs.YtbjgmnliholmpaaDoor.M

/- Whole numbers by sign and size, without Go: sums, products, quotients of two. -/
namespace Go.Proofs.YtbjgmnliholmpaaDoor.M
/-- A size with a sign. -/
def mk (b : Bool) (n : Nat) : Int := if b = true then -(n : Int) else n
/-- Is a number below 0? -/
def ng (z : Int) : Bool := decide (z < 0)
theorem mk_true (n : Nat) : mk true n = -(n : Int) := rfl
theorem mk_false (n : Nat) : mk false n = (n : Int) := rfl
theorem mk_abs (b : Bool) (n : Nat) : (mk b n).natAbs = n := by cases b <;> simp [mk]
theorem mk_ng (b : Bool) (n : Nat) : ng (mk b n) = (b && !decide (n = 0)) := by
  unfold ng
  cases b
  · rw [mk_false, decide_eq_false (by omega)]; rfl
  · rw [mk_true]
    by_cases h : n = 0
    · rw [decide_eq_false (by omega), decide_eq_true h]; rfl
    · rw [decide_eq_true (by omega), decide_eq_false h]; rfl
theorem mk_self (z : Int) : mk (ng z) z.natAbs = z := by
  unfold ng
  by_cases h : z < 0
  · rw [decide_eq_true h, mk_true]; omega
  · rw [decide_eq_false h, mk_false]; omega
theorem ng_true {z : Int} : ng z = true ↔ z < 0 := by unfold ng; exact decide_eq_true_iff
theorem ng_false {z : Int} : ng z = false ↔ 0 ≤ z := by unfold ng; rw [decide_eq_false_iff_not]; omega
theorem mk_cases (z : Int) : (∃ n : Nat, z = n ∧ ng z = false ∧ z.natAbs = n) ∨ (∃ n : Nat, 0 < n ∧ z = -(n : Int) ∧ ng z = true ∧ z.natAbs = n) := by
  by_cases h : z < 0
  · exact Or.inr ⟨z.natAbs, by omega, by omega, ng_true.2 h, rfl⟩
  · exact Or.inl ⟨z.natAbs, by omega, ng_false.2 (by omega), rfl⟩
theorem mk_add {x y : Int} (h : ng x = ng y) : mk (ng x) (x.natAbs + y.natAbs) = x + y := by
  rcases mk_cases x with ⟨n, e, s, a⟩ | ⟨n, n0, e, s, a⟩ <;> rcases mk_cases y with ⟨m, e', s', a'⟩ | ⟨m, m0, e', s', a'⟩ <;> rw [s, s'] at h <;> (try cases h) <;> rw [s, a, a', e, e'] <;> simp only [mk_true, mk_false] <;> omega
theorem mk_sub {x y : Int} (h : ng x ≠ ng y) (hl : y.natAbs ≤ x.natAbs) : mk (ng x) (x.natAbs - y.natAbs) = x + y := by
  rcases mk_cases x with ⟨n, e, s, a⟩ | ⟨n, n0, e, s, a⟩ <;> rcases mk_cases y with ⟨m, e', s', a'⟩ | ⟨m, m0, e', s', a'⟩ <;> rw [s, s'] at h <;> (try exact absurd rfl h) <;> rw [a, a'] at hl <;> rw [s, a, a', e, e'] <;> simp only [mk_true, mk_false] <;> omega
theorem mk_mul (x y : Int) : mk (ng x != ng y) (x.natAbs * y.natAbs) = x * y := by
  rcases mk_cases x with ⟨n, e, s, a⟩ | ⟨n, n0, e, s, a⟩ <;> rcases mk_cases y with ⟨m, e', s', a'⟩ | ⟨m, m0, e', s', a'⟩ <;> rw [s, s', a, a', e, e'] <;> simp [mk, Int.neg_mul, Int.mul_neg]
theorem mk_neg (x : Int) : mk (!ng x) x.natAbs = -x := by
  rcases mk_cases x with ⟨n, e, s, a⟩ | ⟨n, n0, e, s, a⟩ <;> rw [s, a, e] <;> simp [mk]
/-- The quotient of two numbers, rounded down, and the rest. -/
def qd (x y : Int) : Int := mk (ng x != ng y) (x.natAbs / y.natAbs) + (if (ng x != ng y) = true ∧ x.natAbs % y.natAbs ≠ 0 then -1 else 0)
def rs (x y : Int) : Int := if (ng x != ng y) = true ∧ x.natAbs % y.natAbs ≠ 0 then y + -(mk (ng y) (x.natAbs % y.natAbs)) else mk (ng y) (x.natAbs % y.natAbs)
theorem qd_law (x y : Int) (h : y ≠ 0) : qd x y * y + rs x y = x ∧ (0 < y → 0 ≤ rs x y ∧ rs x y < y) ∧ (y < 0 → rs x y ≤ 0 ∧ y < rs x y) := by
  unfold qd rs
  rcases mk_cases x with ⟨n, e, s, a⟩ | ⟨n, n0, e, s, a⟩ <;> rcases mk_cases y with ⟨m, e', s', a'⟩ | ⟨m, m0, e', s', a'⟩ <;> rw [s, s', a, a', e, e']
  all_goals
    have hm : 0 < m := by omega
    have h1 := Nat.div_add_mod n m
    have h2 := Nat.mod_lt n hm
    generalize n / m = q at *
    generalize n % m = r at *
    have h3 : ((n : Nat) : Int) = (m : Int) * (q : Int) + (r : Int) := by rw [← h1]; simp
    clear h1 e e' s s' a a' h
    generalize hP : (m : Int) * (q : Int) = P at h3
    have hP' : (q : Int) * (m : Int) = P := by rw [Int.mul_comm]; exact hP
    by_cases hr : r = 0
    · have hn : ¬ (r ≠ 0) := fun h => h hr
      simp only [show (false != false) = false from rfl, show (true != true) = false from rfl, show (false != true) = true from rfl, show (true != false) = true from rfl, mk_true, mk_false, hn, and_false, if_false, Int.add_zero, Int.mul_neg, Int.neg_mul, Int.neg_neg, hP']
      omega
    · have hn : r ≠ 0 := hr
      simp only [show (false != false) = false from rfl, show (true != true) = false from rfl, show (false != true) = true from rfl, show (true != false) = true from rfl, mk_true, mk_false, hn, not_false_eq_true, ne_eq, and_true, Bool.false_eq_true, if_false, if_true, Int.add_zero, Int.mul_neg, Int.neg_mul, Int.neg_neg, Int.add_mul, Int.one_mul, hP']
      omega
end Go.Proofs.YtbjgmnliholmpaaDoor.M

/- What the functions of package num compute, in plain Lean over their printed forms: made, of, plus, turned, small, Of, Gcd of two. -/
namespace Go.Proofs.YtbjgmnliholmpaaDoor.M
open Go Go.RowKit Go.Proofs.YtbjgmnliholmpaaDoor.V Go.Proofs.YtbjgmnliholmpaaDoor.X
variable [Yc]
set_option linter.unusedSectionVars false

/-- A number at work, and as it is told: its digits and its sign. -/
abbrev nz (z : Int) : List Int × Bool := (D9 z.natAbs, ng z)
abbrev az (z : Int) : Bool × List Int := (ng z, D9 z.natAbs)
/-- How long a number is. -/
abbrev ln (z : Int) : Nat := (D9 z.natAbs).length
theorem D9_lenI (n : Nat) : ((D9 n).length : Int) = 0 ↔ n = 0 := by
  have := D9_nil (n := n)
  constructor
  · intro h; exact this.1 (by omega)
  · intro h; have := this.2 h; omega
theorem zero_f (n : Nat) : num_size_zero.f (D9 n) = some (decide (n = 0)) := by
  unfold num_size_zero.f
  rw [Yc.h]
  exact congrArg some (decide_eq_decide.2 (D9_lenI n))
theorem nz_mk (b : Bool) (n : Nat) : nz (mk b n) = (D9 n, b && !decide (n = 0)) := by
  show (D9 (mk b n).natAbs, ng (mk b n)) = _
  rw [mk_abs, mk_ng]
theorem made_f (l : List Int) (b : Bool) (h : Row 10000 l) : num_made.f l b = some (nz (mk b (val l))) := by
  unfold num_made.f
  rw [nz_mk]
  refine bd (Trim_f l h) ?_
  cases b
  · exact yf rfl
  · refine (yb rfl).trans (bd (zero_f _) ?_)
    rw [Yc.h]
    rfl
theorem made_D (n : Nat) (b : Bool) (h : (D9 n).length ≤ 10000) : num_made.f (D9 n) b = some (nz (mk b n)) := by
  have := made_f (D9 n) b (Row.D h)
  rwa [val_D] at this
theorem nof_f (b : Bool) (l : List Int) (h : Row 10000 l) : num_of.f b l = some (nz (mk b (val l))) := by
  unfold num_of.f
  simp only [Yc.h]
  exact bd (made_f l b h) (rfl)
theorem nof_D (z : Int) (h : ln z ≤ 10000) : num_of.f (ng z) (D9 z.natAbs) = some (nz z) := by
  have := nof_f (ng z) (D9 z.natAbs) (Row.D h)
  rwa [val_D, mk_self] at this
theorem out_f (l : List Int) (b : Bool) : num_number_out.f l b = some (b, l) := by unfold num_number_out.f; rw [Yc.h]
theorem turned_f (z : Int) : num_number_turned.f (D9 z.natAbs) (ng z) = some (nz (-z)) := by
  unfold num_number_turned.f
  rw [zero_f]
  simp only [Yc.h]
  show _ = some (D9 (-z).natAbs, ng (-z))
  rw [Int.natAbs_neg]
  by_cases h : z < 0
  · rw [ng_true.2 h, ng_false.2 (by omega)]; rfl
  · rw [ng_false.2 (by omega)]
    show some (D9 z.natAbs, !(decide (z.natAbs = 0))) = _
    by_cases h0 : z = 0
    · subst h0; rfl
    · rw [ng_true.2 (by omega), decide_eq_false (by omega)]; rfl
theorem ln_add (x y : Int) : ln (x + y) ≤ ln x + ln y + 1 := by
  have h1 : (D9 (x + y).natAbs).length ≤ (D9 (x.natAbs + y.natAbs)).length := D_len_mono B2 (by omega)
  have h2 : (D9 (x.natAbs + y.natAbs)).length ≤ (D9 x.natAbs).length + (D9 y.natAbs).length + 1 := D_len_add B2 _ _
  show (D9 (x + y).natAbs).length ≤ (D9 x.natAbs).length + (D9 y.natAbs).length + 1
  omega
theorem ln_mul (x y : Int) : ln (x * y) ≤ ln x + ln y := by
  show (D9 (x * y).natAbs).length ≤ _
  rw [Int.natAbs_mul]
  exact D_len_mul B2 _ _
theorem ln_neg (x : Int) : ln (-x) = ln x := by
  show (D9 (-x).natAbs).length = _
  rw [Int.natAbs_neg]
theorem ln_mk (b : Bool) (n : Nat) : ln (mk b n) = (D9 n).length := by
  show (D9 (mk b n).natAbs).length = _
  rw [mk_abs]
theorem add2_f (n m : Nat) (h1 : (D9 n).length ≤ 9000) (h2 : (D9 m).length ≤ 9000) : nat_Add.f [D9 n, D9 m] = some (D9 (n + m)) := by
  have := Add_f [D9 n, D9 m] (fun l hl => by simp at hl; rcases hl with rfl | rfl <;> exact Row.D (by omega)) (by simp)
  rwa [show sumV [D9 n, D9 m] = n + m by simp [sumV, val_D]] at this
theorem mul2_f (n m : Nat) (h1 : (D9 n).length ≤ 9000) (h2 : (D9 m).length ≤ 9000) : nat_Mul.f [D9 n, D9 m] = some (D9 (n * m)) := by
  have := Mul_f [D9 n, D9 m] (fun l hl => by simp at hl; rcases hl with rfl | rfl <;> exact Row.D (by omega)) (by simp)
  rwa [show prodV [D9 n, D9 m] = n * m by simp [prodV, val_D]] at this
theorem scmp_f (n m : Nat) (h1 : (D9 n).length ≤ 9000) (h2 : (D9 m).length ≤ 9000) : num_size_cmp.f (D9 n) (D9 m) = some (sgn n m) := by
  have := Cmp_f (D9 n) (D9 m) (Row.D (by omega)) (Row.D (by omega))
  rw [val_D, val_D] at this
  unfold num_size_cmp.f
  exact bd this (rfl)
theorem plus_lt (x y : Int) (hx' : ln x ≤ 4000) (hy' : ln y ≤ 4000) (hs : ng x ≠ ng y) (hl : y.natAbs ≤ x.natAbs) : num_number_plus.f (D9 x.natAbs) (ng x) (D9 y.natAbs) (ng y) = some (nz (x + y)) := by
  have hx : (D9 x.natAbs).length ≤ 4000 := hx'
  have hy : (D9 y.natAbs).length ≤ 4000 := hy'
  have hs' : ¬ ((ng x == ng y) = true) := by rw [beq_iff_eq]; exact hs
  have h1 := scmp_f x.natAbs y.natAbs (by omega) (by omega)
  have h2 := Sub_f (D9 x.natAbs) (D9 y.natAbs) (Row.D (by omega)) (Row.D (by omega))
  rw [val_D, val_D, if_neg (by omega)] at h2
  have e : (D9 (x.natAbs - y.natAbs)).length ≤ (D9 x.natAbs).length := D_len_mono B2 (Nat.sub_le _ _)
  have h3 := made_D (x.natAbs - y.natAbs) (ng x) (by omega)
  rw [mk_sub hs hl] at h3
  rw [num_number_plus.f_eq]
  unfold num_number_plus.s
  simp only [Yc.h]
  rw [show (ng x == ng y) = false from Bool.eq_false_iff.2 hs']
  refine bd h1 ?_
  rw [decide_eq_false (by rw [sgn_lt]; omega)]
  exact bd h2 (bd h3 rfl)
theorem nplus_f (x y : Int) (hx' : ln x ≤ 4000) (hy' : ln y ≤ 4000) : num_number_plus.f (D9 x.natAbs) (ng x) (D9 y.natAbs) (ng y) = some (nz (x + y)) := by
  have hx : (D9 x.natAbs).length ≤ 4000 := hx'
  have hy : (D9 y.natAbs).length ≤ 4000 := hy'
  by_cases hs : ng x = ng y
  · have h1 := add2_f x.natAbs y.natAbs (by omega) (by omega)
    have e : (D9 (x.natAbs + y.natAbs)).length ≤ (D9 x.natAbs).length + (D9 y.natAbs).length + 1 := D_len_add B2 _ _
    have h3 := made_D (x.natAbs + y.natAbs) (ng x) (by omega)
    rw [mk_add hs] at h3
    rw [num_number_plus.f_eq]
    unfold num_number_plus.s
    simp only [Yc.h]
    rw [beq_iff_eq.2 hs]
    exact bd h1 (bd h3 rfl)
  · by_cases hl : y.natAbs ≤ x.natAbs
    · exact plus_lt x y hx hy hs hl
    · have hs' : ¬ ((ng x == ng y) = true) := by rw [beq_iff_eq]; exact hs
      have h1 := scmp_f x.natAbs y.natAbs (by omega) (by omega)
      have h2 := plus_lt y x hy hx (fun e => hs e.symm) (by omega)
      rw [Int.add_comm] at h2
      rw [num_number_plus.f_eq]
      unfold num_number_plus.s
      simp only [Yc.h]
      rw [show (ng x == ng y) = false from Bool.eq_false_iff.2 hs']
      refine bd h1 ?_
      rw [decide_eq_true (by rw [sgn_lt]; omega)]
      exact bd h2 rfl
/-- A number of 64 bits, by its digits. -/
theorem small_l0 (b : Bool) (n : Nat) : ∀ (x : Nat) (o : List Int), x < 18446744073709551616 → Dig B o → V B o + (B : Int) ^ o.length * x = n → o.length + (D9 x).length ≤ 100 →
    num_small.l0 (x : Int) b o = some (nz (mk b n)) := by
  intro x
  induction x using Nat.strongRecOn with
  | ind x ih =>
    intro o hx ho hv hl
    by_cases h0 : x = 0
    · subst h0
      have hr : Row 10000 o := ⟨fun y hy => by have := ho y hy; show 0 ≤ y ∧ y < 4294967296; constructor; exact this.1; exact Int.lt_trans this.2 (by decide), by omega⟩
      have h1 := made_f o b hr
      have e : val o = n := by unfold val; rw [show V B o = (n : Int) by simpa using hv]; rfl
      rw [e] at h1
      rw [num_small.l0_eq]
      unfold num_small.s0
      rw [yn (by simp)]
      simp only [Yc.h]
      exact bd h1 rfl
    · have hm : x % B < B := Nat.mod_lt _ (by decide)
      have hd : x / B < x := Nat.div_lt_self (by omega) (by decide)
      have hq := Nat.div_add_mod x B
      have e1 : Int.tmod (x : Int) 1000000000 = ((x % B : Nat) : Int) := by rw [tm _ (by omega)]; rfl
      have e2 : Int.tdiv (x : Int) 1000000000 = ((x / B : Nat) : Int) := by rw [td _ (by omega)]; rfl
      have e3 : IntKind.u32.wrap ((x % B : Nat) : Int) = ((x % B : Nat) : Int) := wu3 (by omega) (by have : B = 1000000000 := rfl; omega)
      have hlen : (D9 x).length = (D9 (x / B)).length + 1 := by
        show (D B x).length = (D B (x / B)).length + 1
        rw [D_pos B2 h0, List.length_cons]
      refine Eq.trans (b := num_small.l0 ((x / B : Nat) : Int) b (o ++ [((x % B : Nat) : Int)])) ?_ (ih (x / B) hd _ (by omega) (ho.snoc (by omega) (by omega)) ?_ ?_)
      · rw [num_small.l0_eq]
        unfold num_small.s0
        rw [yp (by omega), yp (by omega), e1, e2, e3, wu (Int.natCast_nonneg _) (by have : ((x / B : Nat) : Int) < (x : Int) := Int.ofNat_lt.2 hd; omega), Yc.h]
      · rw [V_snoc, List.length_append, List.length_singleton, Int.pow_succ, ← hv]
        have : ((x : Nat) : Int) = (B : Int) * ((x / B : Nat) : Int) + ((x % B : Nat) : Int) := by rw [← Int.natCast_mul, ← Int.natCast_add, hq]
        rw [this, Int.mul_add, Int.mul_assoc, Int.add_assoc]
        congr 1
        rw [Int.add_comm]
      · rw [List.length_append, List.length_singleton]; omega
theorem D9_u64 {x : Nat} (h : x < 18446744073709551616) : (D9 x).length ≤ 3 := (D_len B2 (n := x) (k := 3)).2 (Nat.lt_of_lt_of_le h (by decide))
theorem small_f (x : Nat) (b : Bool) (hx : x < 18446744073709551616) : num_small.f (x : Int) b = some (nz (mk b x)) := by
  have := D9_u64 hx
  unfold num_small.f
  rw [Yc.h]
  exact small_l0 b x x [] hx (Dig.nil _) (by simp [V]) (by simp; omega)
theorem nOf_f (z : Int) (h0 : -9223372036854775808 ≤ z) (h1 : z < 9223372036854775808) : num_Of.f z = some (az z) := by
  unfold num_Of.f
  by_cases h : z < 0
  · have e : IntKind.u64.wrap (0 - (IntKind.u64.wrap z)) = ((z.natAbs : Nat) : Int) := by
      rw [IntKind.wrap_u64, IntKind.wrap_u64]; omega
    have h2 := small_f z.natAbs true (by omega)
    rw [mk_true, show -((z.natAbs : Nat) : Int) = z by omega, ← e] at h2
    rw [yp h]
    simp only [Yc.h, out_f]
    exact bd h2 rfl
  · have ez : ((z.natAbs : Nat) : Int) = z := by omega
    have h2 := small_f z.natAbs false (by omega)
    rw [mk_false, ez] at h2
    rw [yn h, show IntKind.u64.wrap z = z by rw [IntKind.wrap_u64]; omega]
    simp only [Yc.h, out_f]
    exact bd h2 rfl
/-- The greatest common divisor of two sizes. -/
theorem gcd2_l0 (m : Nat) : ∀ (n : Nat) (b1 b2 : Bool), (D9 n).length ≤ 9000 → (D9 m).length ≤ 9000 → num_Gcd_1.l0 (D9 n) b1 (D9 m) b2 = some (D9 (Nat.gcd n m), false) := by
  induction m using Nat.strongRecOn with
  | ind m ih =>
    intro n b1 b2 hn hm
    by_cases h0 : m = 0
    · subst h0
      have h1 := made_D n false (by omega)
      rw [nz_mk] at h1
      rw [Nat.gcd_zero_right]
      rw [num_Gcd_1.l0_eq]
      unfold num_Gcd_1.s0
      refine bd (zero_f _) ?_
      simp only [Yc.h]
      exact bd h1 rfl
    · have hd := DivMod_f (D9 n) (D9 m) (Row.D (by omega)) (Row.D (by omega))
      rw [val_D, val_D, if_neg h0] at hd
      have e2 : (D9 (n % m)).length ≤ (D9 n).length := D_len_mono B2 (Nat.mod_le _ _)
      have h1 := made_D (n % m) false (by omega)
      rw [nz_mk] at h1
      rw [Nat.gcd_comm, Nat.gcd_rec, Nat.gcd_comm]
      rw [num_Gcd_1.l0_eq]
      unfold num_Gcd_1.s0
      refine bd (zero_f _) ?_
      simp only [Yc.h]
      rw [decide_eq_false h0]
      exact bd hd (bd h1 (ih (n % m) (Nat.mod_lt _ (by omega)) m b2 _ hm (by omega)))
end Go.Proofs.YtbjgmnliholmpaaDoor.M

/- What num.DivMod computes, in plain Lean over its printed form. -/
namespace Go.Proofs.YtbjgmnliholmpaaDoor.M
open Go Go.RowKit Go.Proofs.YtbjgmnliholmpaaDoor.V Go.Proofs.YtbjgmnliholmpaaDoor.X
variable [Yc]
set_option linter.unusedSectionVars false
theorem qd_neg1 (x : Int) : x + mk true 1 = x + -1 := rfl
theorem nDivMod_f (b1 : Bool) (l1 : List Int) (b2 : Bool) (l2 : List Int) (h1 : Row 3000 l1) (h2 : Row 3000 l2) :
    num_DivMod.f b1 l1 b2 l2 = some (if mk b2 (val l2) = 0 then (false, [], false, [], 9) else
      (ng (qd (mk b1 (val l1)) (mk b2 (val l2))), D9 (qd (mk b1 (val l1)) (mk b2 (val l2))).natAbs, ng (rs (mk b1 (val l1)) (mk b2 (val l2))), D9 (rs (mk b1 (val l1)) (mk b2 (val l2))).natAbs, 0)) := by
  have n1 := h1.len
  have n2 := h2.len
  have lx : ln (mk b1 (val l1)) ≤ 3001 := by rw [ln_mk]; exact n1
  have ly : ln (mk b2 (val l2)) ≤ 3001 := by rw [ln_mk]; exact n2
  have o1 := nof_f b1 l1 (h1.le (show 3000 ≤ 10000 by decide))
  have o2 := nof_f b2 l2 (h2.le (show 3000 ≤ 10000 by decide))
  generalize mk b1 (val l1) = x at *
  generalize mk b2 (val l2) = y at *
  have lx' : (D9 x.natAbs).length ≤ 3001 := lx
  have ly' : (D9 y.natAbs).length ≤ 3001 := ly
  have hd := DivMod_f (D9 x.natAbs) (D9 y.natAbs) (Row.D (by omega)) (Row.D (by omega))
  rw [val_D, val_D] at hd
  unfold num_DivMod.f
  simp only [Yc.h, out_f]
  refine bd o1 (bd o2 (bd hd ?_))
  by_cases h0 : y = 0
  · rw [if_pos h0, if_pos (by omega)]
    rfl
  · rw [if_neg h0, if_neg (by omega)]
    have e1 : (D9 (x.natAbs / y.natAbs)).length ≤ (D9 x.natAbs).length := D_len_mono B2 (Nat.div_le_self _ _)
    have e2 : (D9 (x.natAbs % y.natAbs)).length ≤ (D9 x.natAbs).length := D_len_mono B2 (Nat.mod_le _ _)
    have m1 := made_D (x.natAbs / y.natAbs) (ng x != ng y) (by omega)
    have m2 := made_D (x.natAbs % y.natAbs) (ng y) (by omega)
    have l1' : ln (mk (ng x != ng y) (x.natAbs / y.natAbs)) ≤ 3001 := by rw [ln_mk]; omega
    have l2' : ln (mk (ng y) (x.natAbs % y.natAbs)) ≤ 3001 := by rw [ln_mk]; omega
    have z2 : (mk (ng y) (x.natAbs % y.natAbs)).natAbs = x.natAbs % y.natAbs := mk_abs _ _
    unfold qd rs
    refine bd m1 (bd m2 ?_)
    dsimp only [nz]
    by_cases hs : (ng x != ng y) = true
    · have hs' : (!(ng x == ng y)) = true := hs
      rw [hs', cond_true]
      refine bd (zero_f _) ?_
      by_cases hr : x.natAbs % y.natAbs = 0
      · rw [if_neg (fun h => h.2 hr), if_neg (fun h => h.2 hr), Int.add_zero, z2, decide_eq_true hr]
        simp only [z2, hr]
        rfl
      · rw [if_pos ⟨hs, hr⟩, if_pos ⟨hs, hr⟩, decide_eq_false (by rw [z2]; exact hr)]
        have s1 := small_f 1 true (by decide)
        have t1 : ln (mk true 1) ≤ 3 := by rw [ln_mk]; exact D9_u64 (by decide)
        have p1 := nplus_f (mk (ng x != ng y) (x.natAbs / y.natAbs)) (mk true 1) (by omega) (by omega)
        have t2 : ln (-(mk (ng y) (x.natAbs % y.natAbs))) ≤ 3001 := by rw [ln_neg]; exact l2'
        have p2 := nplus_f y (-(mk (ng y) (x.natAbs % y.natAbs))) (by omega) (by omega)
        exact bd s1 (bd p1 (bd (turned_f _) (bd p2 rfl)))
    · have hs' : (!(ng x == ng y)) = false := Bool.eq_false_iff.2 hs
      rw [hs', cond_false, if_neg (fun h => hs h.1), if_neg (fun h => hs h.1), Int.add_zero]
      rfl
end Go.Proofs.YtbjgmnliholmpaaDoor.M

/- What num's folds compute, in plain Lean over their printed forms: Gcd, Text, Parse, same, and the reference's Of and Parse. -/
namespace Go.Proofs.YtbjgmnliholmpaaDoor.M
open Go Go.RowKit Go.Proofs.YtbjgmnliholmpaaDoor.V Go.Proofs.YtbjgmnliholmpaaDoor.X
variable [Yc]
set_option linter.unusedSectionVars false
/-- The number that an api.Int stands for, and a list's rows within a length. -/
abbrev iv (x : S_api_Int) : Int := mk x.f0 (val x.f1)
theorem rdS_app (p : List S_api_Int) (x : S_api_Int) (s : List S_api_Int) : rd_api_Int (p ++ x :: s) (p.length : Int) = x := by
  show (p ++ x :: s).getD (p.length : Int).toNat (⟨false, []⟩ : S_api_Int) = x
  simp
/-- How many digits a list's numbers have, together; what they come to. -/
def tot : List S_api_Int → Nat
  | [] => 0
  | x :: L => x.f1.length + tot L
def sumI : List S_api_Int → Int
  | [] => 0
  | x :: L => iv x + sumI L
def prodI : List S_api_Int → Int
  | [] => 1
  | x :: L => iv x * prodI L
theorem row_self {l : List Int} (h : U32 l) : Row l.length l := ⟨h, Nat.le_refl _⟩
theorem ln_iv (x : S_api_Int) (h : U32 x.f1) : ln (iv x) ≤ x.f1.length + 1 := by rw [ln_mk]; exact (row_self h).len
def gcdV : List S_api_Int → Nat → Nat
  | [], g => g
  | x :: L, g => gcdV L (Nat.gcd g (iv x).natAbs)
theorem ln_gcd (n m : Nat) : (D9 (Nat.gcd n m)).length ≤ (D9 n).length + (D9 m).length := by
  by_cases h : n = 0
  · subst h; rw [Nat.gcd_zero_left]; omega
  · have : (D9 (Nat.gcd n m)).length ≤ (D9 n).length := D_len_mono B2 (Nat.gcd_le_left _ (Nat.pos_of_ne_zero h))
    omega
theorem gcd_fold (s : List S_api_Int) : ∀ (p : List S_api_Int) (g : Nat), (∀ x ∈ s, U32 x.f1) → (D9 g).length + tot s + 2 * s.length ≤ 3000 → p.length + s.length ≤ 3000 →
    num_together_at_num_Gcd_1.l0 (D9 g) false (p ++ s) ((p ++ s).length : Int) (p.length : Int) = some (false, D9 (gcdV s g)) := by
  induction s with
  | nil =>
    intro p g hs hn hp
    rw [num_together_at_num_Gcd_1.l0_eq]
    unfold num_together_at_num_Gcd_1.s0
    rw [yn (by simp), Yc.h, out_f]
    simp only [Yc.h]
    rfl
  | cons x s ih =>
    intro p g hs hn hp
    have hx := hs x (by simp)
    simp only [List.length_cons, tot] at hn hp
    refine Eq.trans (b := (num_of.f x.f0 x.f1).bind fun u => (num_Gcd_1.f (D9 g) false u.1 u.2).bind fun v => num_together_at_num_Gcd_1.l0 v.1 v.2 ((p ++ [x]) ++ s) (((p ++ [x]) ++ s).length : Int) ((p ++ [x]).length : Int)) ?_ ?_
    · rw [num_together_at_num_Gcd_1.l0_eq]
      unfold num_together_at_num_Gcd_1.s0
      rw [yp (by simp; omega), yp (by omega), yp (by simp; omega), rdS_app, w64 (by omega) (by omega)]
      simp only [Yc.h]
      simp
    · have h1 : (D9 (iv x).natAbs).length ≤ x.f1.length + 1 := ln_iv x hx
      have h3 := nof_f x.f0 x.f1 ((row_self hx).le (by omega))
      have h2 := ln_gcd g (iv x).natAbs
      have h4 := gcd2_l0 (iv x).natAbs g false (ng (iv x)) (by omega) (by omega)
      have h6 := ih (p ++ [x]) (Nat.gcd g (iv x).natAbs) (fun y hy => hs y (by simp [hy])) (by omega) (by simp; omega)
      have h5 : num_Gcd_1.f (D9 g) false (D9 (iv x).natAbs) (ng (iv x)) = some (D9 (Nat.gcd g (iv x).natAbs), false) := by unfold num_Gcd_1.f; simp only [Yc.h]; exact h4
      exact bd h3 (bd h5 h6)
theorem nGcd_f (L : List S_api_Int) (hL : ∀ x ∈ L, U32 x.f1) (hn : tot L + 2 * L.length ≤ 3000) : num_Gcd.f L = some (false, D9 (gcdV L 0)) := by
  have := gcd_fold L [] 0 hL (by rw [show D9 0 = [] from D_zero B]; simp; omega) (by simp; omega)
  rw [show D9 0 = [] from D_zero B] at this
  unfold num_Gcd.f num_together_at_num_Gcd_1.f
  simp only [Yc.h]
  exact bd this rfl
/-- Two numbers as told are one just if they are. -/
theorem nsame_f (b1 : Bool) (l1 : List Int) (b2 : Bool) (l2 : List Int) (hl : l1.length ≤ 1000000000) : whetstonelaw02_same.f b1 l1 b2 l2 = some (decide ((b1, l1) = (b2, l2))) := by
  unfold whetstonelaw02_same.f whetstonekit_SameInt.f
  simp only [Yc.h]
  rw [limbs_f l1 l2 hl]
  by_cases hb : b1 = b2
  · subst hb
    rw [show (b1 == b1) = true by simp, show decide ((b1, l1) = (b1, l2)) = decide (l1 = l2) from decide_eq_decide.2 ⟨fun h => (Prod.mk.inj h).2, fun h => by rw [h]⟩]
    rfl
  · rw [show (b1 == b2) = false by simpa using hb, decide_eq_false (fun e => hb (Prod.mk.inj e).1)]
    rfl
theorem az_inj {x y : Int} (h : az x = az y) : x = y := by
  have h1 := (Prod.mk.inj h).1
  have h2 := D_inj B2 (Prod.mk.inj h).2
  rw [← mk_self x, ← mk_self y, h1, h2]
theorem nsame_az (x y : Int) (hx : ln x ≤ 1000000) : whetstonelaw02_same.f (ng x) (D9 x.natAbs) (ng y) (D9 y.natAbs) = some (decide (x = y)) := by
  have hl : (D9 x.natAbs).length ≤ 1000000 := hx
  have := nsame_f (ng x) (D9 x.natAbs) (ng y) (D9 y.natAbs) (by omega)
  rwa [show decide ((ng x, D9 x.natAbs) = (ng y, D9 y.natAbs)) = decide (x = y) from decide_eq_decide.2 ⟨fun h => az_inj h, fun h => by rw [h]⟩] at this
end Go.Proofs.YtbjgmnliholmpaaDoor.M

/- What num's Add, Mul, Neg, Sub, Cmp, Right and the law's great compute, in plain Lean over their printed forms. -/
namespace Go.Proofs.YtbjgmnliholmpaaDoor.M
open Go Go.RowKit Go.Proofs.YtbjgmnliholmpaaDoor.V Go.Proofs.YtbjgmnliholmpaaDoor.X
variable [Yc]
set_option linter.unusedSectionVars false
theorem ntimes_f (x y : Int) (hx' : ln x ≤ 4000) (hy' : ln y ≤ 4000) : num_number_times.f (D9 x.natAbs) (ng x) (D9 y.natAbs) (ng y) = some (nz (x * y)) := by
  have hx : (D9 x.natAbs).length ≤ 4000 := hx'
  have hy : (D9 y.natAbs).length ≤ 4000 := hy'
  have h1 := mul2_f x.natAbs y.natAbs (by omega) (by omega)
  have e : (D9 (x.natAbs * y.natAbs)).length ≤ (D9 x.natAbs).length + (D9 y.natAbs).length := D_len_mul B2 _ _
  have h3 := made_D (x.natAbs * y.natAbs) (ng x != ng y) (by omega)
  rw [mk_mul] at h3
  unfold num_number_times.f
  simp only [Yc.h]
  exact bd h1 (bd h3 (rfl))
theorem nplus_fold (s : List S_api_Int) : ∀ (p : List S_api_Int) (z : Int), (∀ x ∈ s, U32 x.f1) → ln z + tot s + 2 * s.length ≤ 3000 → p.length + s.length ≤ 3000 →
    num_together_at_num_number_plus.l0 (D9 z.natAbs) (ng z) (p ++ s) ((p ++ s).length : Int) (p.length : Int) = some (az (z + sumI s)) := by
  induction s with
  | nil =>
    intro p z hs hn hp
    show _ = some (az (z + 0))
    rw [Int.add_zero, num_together_at_num_number_plus.l0_eq]
    unfold num_together_at_num_number_plus.s0
    rw [yn (by simp), Yc.h, out_f]
    simp only [Yc.h]
    rfl
  | cons x s ih =>
    intro p z hs hn hp
    have hx := hs x (by simp)
    simp only [List.length_cons, tot] at hn hp
    refine Eq.trans (b := (num_of.f x.f0 x.f1).bind fun u => (num_number_plus.f (D9 z.natAbs) (ng z) u.1 u.2).bind fun v => num_together_at_num_number_plus.l0 v.1 v.2 ((p ++ [x]) ++ s) (((p ++ [x]) ++ s).length : Int) ((p ++ [x]).length : Int)) ?_ ?_
    · rw [num_together_at_num_number_plus.l0_eq]
      unfold num_together_at_num_number_plus.s0
      rw [yp (by simp; omega), yp (by omega), yp (by simp; omega), rdS_app, w64 (by omega) (by omega)]
      simp only [Yc.h]
      simp
    · have h1 := ln_iv x hx
      have h3 := nof_f x.f0 x.f1 ((row_self hx).le (by omega))
      have h4 := nplus_f z (iv x) (by omega) (by omega)
      have h5 := ln_add z (iv x)
      have h6 := ih (p ++ [x]) (z + iv x) (fun y hy => hs y (by simp [hy])) (by omega) (by simp; omega)
      rw [show z + iv x + sumI s = z + sumI (x :: s) by show _ = z + (iv x + sumI s); rw [Int.add_assoc]] at h6
      exact bd h3 (bd h4 h6)
theorem nAdd_f (L : List S_api_Int) (hL : ∀ x ∈ L, U32 x.f1) (hn : tot L + 2 * L.length ≤ 3000) : num_Add.f L = some (az (sumI L)) := by
  have := nplus_fold L [] 0 hL (by show (D9 0).length + _ + _ ≤ _; rw [show D9 0 = [] from D_zero B]; simp; omega) (by simp; omega)
  rw [Int.zero_add, show D9 (0 : Int).natAbs = [] from D_zero B] at this
  unfold num_Add.f num_together_at_num_number_plus.f
  simp only [Yc.h]
  exact bd this rfl
theorem ntimes_fold (s : List S_api_Int) : ∀ (p : List S_api_Int) (z : Int), (∀ x ∈ s, U32 x.f1) → ln z + tot s + 2 * s.length ≤ 3000 → p.length + s.length ≤ 3000 →
    num_together_at_num_number_times.l0 (D9 z.natAbs) (ng z) (p ++ s) ((p ++ s).length : Int) (p.length : Int) = some (az (z * prodI s)) := by
  induction s with
  | nil =>
    intro p z hs hn hp
    show _ = some (az (z * 1))
    rw [Int.mul_one, num_together_at_num_number_times.l0_eq]
    unfold num_together_at_num_number_times.s0
    rw [yn (by simp), Yc.h, out_f]
    simp only [Yc.h]
    rfl
  | cons x s ih =>
    intro p z hs hn hp
    have hx := hs x (by simp)
    simp only [List.length_cons, tot] at hn hp
    refine Eq.trans (b := (num_of.f x.f0 x.f1).bind fun u => (num_number_times.f (D9 z.natAbs) (ng z) u.1 u.2).bind fun v => num_together_at_num_number_times.l0 v.1 v.2 ((p ++ [x]) ++ s) (((p ++ [x]) ++ s).length : Int) ((p ++ [x]).length : Int)) ?_ ?_
    · rw [num_together_at_num_number_times.l0_eq]
      unfold num_together_at_num_number_times.s0
      rw [yp (by simp; omega), yp (by omega), yp (by simp; omega), rdS_app, w64 (by omega) (by omega)]
      simp only [Yc.h]
      simp
    · have h1 := ln_iv x hx
      have h3 := nof_f x.f0 x.f1 ((row_self hx).le (by omega))
      have h4 := ntimes_f z (iv x) (by omega) (by omega)
      have h5 := ln_mul z (iv x)
      have h6 := ih (p ++ [x]) (z * iv x) (fun y hy => hs y (by simp [hy])) (by omega) (by simp; omega)
      rw [show z * iv x * prodI s = z * prodI (x :: s) by show _ = z * (iv x * prodI s); rw [Int.mul_assoc]] at h6
      exact bd h3 (bd h4 h6)
theorem nMul_f (L : List S_api_Int) (hL : ∀ x ∈ L, U32 x.f1) (hn : tot L + 2 * L.length ≤ 2900) : num_Mul.f L = some (az (prodI L)) := by
  have h1 := small_f 1 false (by decide)
  have hl : ln (mk false 1) ≤ 3 := by rw [ln_mk]; exact D9_u64 (by decide)
  have := ntimes_fold L [] (mk false 1) hL (by omega) (by simp; omega)
  rw [show mk false 1 * prodI L = prodI L by rw [mk_false]; exact Int.one_mul _] at this
  unfold num_Mul.f num_together_at_num_number_times.f
  simp only [Yc.h]
  exact bd h1 (bd this rfl)
theorem sgn_cases (x y : Int) : (x < y ∧ sgn x y = -1) ∨ (x = y ∧ sgn x y = 0) ∨ (y < x ∧ sgn x y = 1) := by
  unfold sgn
  by_cases h : x < y
  · exact Or.inl ⟨h, if_pos h⟩
  · rw [if_neg h]
    by_cases h' : y < x
    · exact Or.inr (Or.inr ⟨h', if_pos h'⟩)
    · exact Or.inr (Or.inl ⟨by omega, if_neg h'⟩)
theorem nCmp_f (b1 : Bool) (l1 : List Int) (b2 : Bool) (l2 : List Int) (h1 : Row 3000 l1) (h2 : Row 3000 l2) : num_Cmp.f b1 l1 b2 l2 = some (sgn (mk b1 (val l1)) (mk b2 (val l2))) := by
  have n1 := h1.len
  have n2 := h2.len
  have lx : (D9 (mk b1 (val l1)).natAbs).length ≤ 3001 := by rw [mk_abs]; exact n1
  have ly : (D9 (mk b2 (val l2)).natAbs).length ≤ 3001 := by rw [mk_abs]; exact n2
  have o1 := nof_f b1 l1 (h1.le (show 3000 ≤ 10000 by decide))
  have o2 := nof_f b2 l2 (h2.le (show 3000 ≤ 10000 by decide))
  generalize mk b1 (val l1) = x at *
  generalize mk b2 (val l2) = y at *
  have c1 := scmp_f x.natAbs y.natAbs (by omega) (by omega)
  have c2 := scmp_f y.natAbs x.natAbs (by omega) (by omega)
  have e1 : sgn (x.natAbs : Int) (y.natAbs : Int) = if (x.natAbs : Int) < y.natAbs then -1 else if (y.natAbs : Int) < x.natAbs then 1 else 0 := rfl
  have e2 : sgn (y.natAbs : Int) (x.natAbs : Int) = if (y.natAbs : Int) < x.natAbs then -1 else if (x.natAbs : Int) < y.natAbs then 1 else 0 := rfl
  have e3 : sgn x y = if x < y then -1 else if y < x then 1 else 0 := rfl
  unfold num_Cmp.f
  simp only [Yc.h]
  refine bd o1 (bd o2 ?_)
  dsimp only [nz]
  by_cases hx : x < 0
  · have sx : ng x = true := ng_true.2 hx
    by_cases hy : y < 0
    · have sy : ng y = true := ng_true.2 hy
      rw [show sgn x y = sgn (y.natAbs : Int) (x.natAbs : Int) by rw [e2, e3]; simp only [show (x < y) = ((y.natAbs : Int) < x.natAbs) from propext ⟨fun h => by omega, fun h => by omega⟩, show (y < x) = ((x.natAbs : Int) < y.natAbs) from propext ⟨fun h => by omega, fun h => by omega⟩]]
      rw [sx, sy]
      exact bd c2 rfl
    · have sy : ng y = false := ng_false.2 (by omega)
      rw [show sgn x y = -1 from if_pos (by omega), sx, sy]
      rfl
  · have sx : ng x = false := ng_false.2 (by omega)
    by_cases hy : y < 0
    · have sy : ng y = true := ng_true.2 hy
      rw [show sgn x y = 1 by rw [e3, if_neg (by omega), if_pos (by omega)], sx, sy]
      rfl
    · have sy : ng y = false := ng_false.2 (by omega)
      rw [show sgn x y = sgn (x.natAbs : Int) (y.natAbs : Int) by rw [e1, e3]; simp only [show (x < y) = ((x.natAbs : Int) < y.natAbs) from propext ⟨fun h => by omega, fun h => by omega⟩, show (y < x) = ((y.natAbs : Int) < x.natAbs) from propext ⟨fun h => by omega, fun h => by omega⟩], sx, sy]
      exact bd c1 rfl
/-- A list's numbers are few, and their digits too. -/
def big (L : List S_api_Int) : Bool := decide (1000 < tot L) || decide (20 < L.length)
theorem great_l0 (s : List S_api_Int) : ∀ (p : List S_api_Int) (n : Nat), n ≤ 1000000000000000 → (∀ x ∈ s, x.f1.length ≤ 100000000000000) → (p ++ s).length ≤ 1000000000000000 →
    whetstonelaw02_great.l0 (p ++ s) (n : Int) (p.length : Int) = some (decide (1000 < n + tot s) || decide (20 < (p ++ s).length)) := by
  have fin (L : List S_api_Int) (n : Nat) (m : Nat) (h : 1000 < n ↔ 1000 < m) : (bif Yc.y (decide ((1000 : Int) < (n : Int))) then some true else some (Yc.y (decide ((20 : Int) < (L.length : Int))))) = some (decide (1000 < m) || decide (20 < L.length)) := by
    by_cases hn : 1000 < n
    · rw [yp (by omega), decide_eq_true (h.1 hn)]; rfl
    · rw [yn (by omega), decide_eq_false (fun hh => hn (h.2 hh)), Bool.false_or, Yc.h]
      congr 1
      exact decide_eq_decide.2 ⟨fun h => by omega, fun h => by omega⟩
  induction s with
  | nil =>
    intro p n hn hs hp
    rw [whetstonelaw02_great.l0_eq]
    unfold whetstonelaw02_great.s0
    rw [yn (by simp)]
    exact fin _ n (n + 0) Iff.rfl
  | cons x s ih =>
    intro p n hn hs hp
    have hx := hs x (by simp)
    by_cases h : n ≤ 1000
    · have h1 := ih (p ++ [x]) (n + x.f1.length) (by omega) (fun y hy => hs y (by simp [hy])) (by simpa using hp)
      refine Eq.trans (b := whetstonelaw02_great.l0 ((p ++ [x]) ++ s) ((n + x.f1.length : Nat) : Int) ((p ++ [x]).length : Int)) ?_ ?_
      · have hpl : p.length < 1000000000000000 := by simp at hp; omega
        rw [whetstonelaw02_great.l0_eq]
        unfold whetstonelaw02_great.s0
        rw [yp (by simp; omega), yp (by omega), yp (by omega), yp (by simp; omega), rdS_app, w64 (by omega) (by omega), w64 (by omega) (by omega)]
        simp
      · rw [show n + tot (x :: s) = n + x.f1.length + tot s by simp only [tot]; omega]
        simpa using h1
    · rw [whetstonelaw02_great.l0_eq]
      unfold whetstonelaw02_great.s0
      rw [yp (by simp; omega), yn (by omega)]
      exact fin _ n (n + tot (x :: s)) ⟨fun h => by omega, fun _ => by omega⟩
theorem great_f (L : List S_api_Int) (hs : ∀ x ∈ L, x.f1.length ≤ 100000000000000) (h : L.length ≤ 1000000000000000) : whetstonelaw02_great.f L = some (big L) := by
  have := great_l0 L [] 0 (by omega) hs (by simpa using h)
  rw [Nat.zero_add] at this
  exact this
end Go.Proofs.YtbjgmnliholmpaaDoor.M

/- What Of computes, the program's and the reference's: on a row of decimal digits without a leading nought the number, else false. -/
namespace Go.Proofs.YtbjgmnliholmpaaDoor.M
open Go Go.RowKit Go.Proofs.YtbjgmnliholmpaaDoor.V Go.Proofs.YtbjgmnliholmpaaDoor.X
variable [Yc]
set_option linter.unusedSectionVars false
/-- A text's byte. -/
def bt (s : ByteArray) (i : Int) : Int := ((s.data.toList.getD i.toNat (0 : UInt8)).toNat : Int)

/-- The number that decimal digits spell, the highest first. -/
def dv (l : List UInt8) : Nat := l.foldl (fun a c => a * 10 + (c.toNat - 48)) 0
/-- A decimal digit's byte. -/
def isDig (c : UInt8) : Prop := 48 ≤ c.toNat ∧ c.toNat ≤ 57
instance (c : UInt8) : Decidable (isDig c) := inferInstanceAs (Decidable (_ ∧ _))
def allDig (l : List UInt8) : Bool := l.all (fun c => decide (isDig c))
theorem allDig_iff {l : List UInt8} : allDig l = true ↔ ∀ c ∈ l, isDig c := by
  unfold allDig
  rw [List.all_eq_true]
  exact ⟨fun h c hc => of_decide_eq_true (h c hc), fun h c hc => decide_eq_true (h c hc)⟩
theorem allDig_no {l : List UInt8} (h : ¬ ∀ c ∈ l, isDig c) : allDig l = false := by
  cases e : allDig l
  · rfl
  · exact absurd (allDig_iff.1 e) h
theorem dv_foldl (l : List UInt8) (a : Nat) : l.foldl (fun a c => a * 10 + (c.toNat - 48)) a = a * 10 ^ l.length + dv l := by
  induction l generalizing a with
  | nil => simp [dv]
  | cons c l ih =>
    have h := ih (c.toNat - 48)
    simp only [dv, List.foldl_cons, List.length_cons, Nat.zero_mul, Nat.zero_add] at h ⊢
    rw [ih, h, Nat.add_mul, Nat.pow_succ, Nat.mul_comm (10 ^ l.length), ← Nat.mul_assoc, Nat.add_assoc]
    rfl
theorem dv_append (l r : List UInt8) : dv (l ++ r) = dv l * 10 ^ r.length + dv r := by
  unfold dv
  rw [List.foldl_append, dv_foldl]
  rfl
theorem dv_one (c : UInt8) : dv [c] = c.toNat - 48 := by simp [dv]
theorem dv_lt (l : List UInt8) (h : ∀ c ∈ l, isDig c) : dv l < 10 ^ l.length := by
  induction l with
  | nil => simp [dv]
  | cons c l ih =>
    have h1 := ih (fun x hx => h x (by simp [hx]))
    have h2 : isDig c := h c (by simp)
    unfold isDig at h2
    have e : dv (c :: l) = dv [c] * 10 ^ l.length + dv l := dv_append [c] l
    rw [e, dv_one, List.length_cons, Nat.pow_succ]
    have h3 : (c.toNat - 48 + 1) * 10 ^ l.length ≤ 10 * 10 ^ l.length := Nat.mul_le_mul_right _ (by omega)
    rw [Nat.add_mul] at h3
    omega
theorem parse_dv (r : List UInt8) (h : ∀ c ∈ r, isDig c) : ∀ a : Nat, (a + 1) * 10 ^ r.length ≤ 1000000000000000000 → Lib.parseUintM (2 ^ 64 - 1) a r = .ok (r.foldl (fun a c => a * 10 + (c.toNat - 48)) a) := by
  induction r with
  | nil => intro a _; rfl
  | cons c r ih =>
    intro a ha
    have h2 : isDig c := h c (by simp)
    rw [List.length_cons, Nat.pow_succ] at ha
    have hp : 1 ≤ 10 ^ r.length := Nat.pow_pos (by omega)
    have ha1 : (a + 1) * (1 * 10) ≤ (a + 1) * (10 ^ r.length * 10) := Nat.mul_le_mul_left _ (Nat.mul_le_mul_right _ hp)
    unfold isDig at h2
    rw [Lib.parseUintM, if_pos h2, if_neg (by omega), if_neg (by omega)]
    refine ih (fun x hx => h x (by simp [hx])) _ ?_
    have : (a * 10 + (c.toNat - 48) + 1) * 10 ^ r.length ≤ ((a + 1) * 10) * 10 ^ r.length := Nat.mul_le_mul_right _ (by omega)
    rw [Nat.mul_assoc, Nat.mul_comm 10] at this
    omega
theorem parse_f (s : ByteArray) (h : ∀ c ∈ s.data.toList, isDig c) (h0 : s.data.toList ≠ []) (h9 : s.size ≤ 9) : strconv_ParseUint.f s 10 64 = some (dv s.data.toList : Int) := by
  unfold strconv_ParseUint.f
  have hl : s.data.toList.length ≤ 9 := by rw [← Lib.size_eq]; exact h9
  rw [if_pos rfl, if_pos rfl, if_pos (by omega), Lib.parseUintB, if_neg h0, parse_dv _ h 0 (by
    have : 10 ^ s.data.toList.length ≤ 10 ^ 9 := Nat.pow_le_pow_right (by omega) hl
    omega)]
  rfl
theorem bt_eq (s : ByteArray) (i : Nat) (h : i < s.size) : bt s (i : Int) = ((s.data.toList[i]'(by rw [← Lib.size_eq]; exact h)).toNat : Int) := by
  unfold bt
  rw [Int.toNat_natCast, List.getD_eq_getElem?_getD, List.getElem?_eq_getElem (by rw [← Lib.size_eq]; exact h)]
  rfl

theorem decimal_l0 (s : ByteArray) (hs : s.size ≤ 1000000) (q : Nat) : ∀ (i : Nat), i + q = s.size →
    nat_decimal.l0 s (s.size : Int) (i : Int) = some (allDig (s.data.toList.drop i)) := by
  induction q with
  | zero =>
    intro i hi
    have hl := Lib.size_eq s
    rw [List.drop_eq_nil_of_le (by omega)]
    refine Eq.trans (b := some true) ?_ (rfl)
    rw [nat_decimal.l0_eq]
    unfold nat_decimal.s0
    rw [yn (by omega)]
  | succ q ih =>
    intro i hi
    have hl := Lib.size_eq s
    have hil : i < s.data.toList.length := by omega
    have hb := bt_eq s i (by omega)
    rw [List.drop_eq_getElem_cons hil]
    obtain ⟨c, hc⟩ : ∃ c, c = s.data.toList[i]'hil := ⟨_, rfl⟩
    rw [← hc] at hb ⊢
    by_cases h1 : isDig c
    · have e : allDig (c :: s.data.toList.drop (i + 1)) = allDig (s.data.toList.drop (i + 1)) := by
        unfold allDig
        rw [List.all_cons, decide_eq_true h1, Bool.true_and]
      rw [e]
      unfold isDig at h1
      refine Eq.trans (b := nat_decimal.l0 s (s.size : Int) ((i + 1 : Nat) : Int)) ?_ (ih (i + 1) (by omega))
      rw [nat_decimal.l0_eq]
      unfold nat_decimal.s0
      rw [yp (by omega), yp (by omega), yp (by omega)]
      change (bif Yc.y (decide (bt s i < 48)) then _ else bif _ then bif _ then bif Yc.y (decide (57 < bt s i)) then _ else _ else _ else _) = _
      rw [hb, yn (by omega), yp (by omega), yp (by omega), yn (by omega), w64 (by omega) (by omega)]
      rfl
    · have e : allDig (c :: s.data.toList.drop (i + 1)) = false := allDig_no (fun h => h1 (h c (by simp)))
      rw [e]
      unfold isDig at h1
      refine Eq.trans (b := some false) ?_ (rfl)
      rw [nat_decimal.l0_eq]
      unfold nat_decimal.s0
      rw [yp (by omega), yp (by omega), yp (by omega)]
      change (bif Yc.y (decide (bt s i < 48)) then _ else bif _ then bif _ then bif Yc.y (decide (57 < bt s i)) then _ else _ else _ else _) = _
      rw [hb]
      by_cases h2 : (c.toNat : Int) < 48
      · rw [yp h2]
      · rw [yn h2, yp (by omega), yp (by omega), yp (by omega)]
theorem decimal_f (s : ByteArray) (hs : s.size ≤ 1000000) : nat_decimal.f s = some (allDig s.data.toList) := by
  have := decimal_l0 s hs s.size 0 (by omega)
  rwa [List.drop_zero] at this

theorem of_go (n : Nat) : ∀ (s : ByteArray) (o : List Int), s.size ≤ n → n ≤ 100000 → o.length + s.size ≤ 100000 → Dig B o → (∀ c ∈ s.data.toList, isDig c) →
    nat_Of.l0 s o = some (D9 ((V B o).toNat + B ^ o.length * dv s.data.toList), true) := by
  induction n with
  | zero =>
    intro s o hs _ ho hd _
    have hl := Lib.size_eq s
    have : s.data.toList = [] := List.eq_nil_of_length_eq_zero (by omega)
    rw [this]
    simp only [dv, List.foldl_nil, Nat.mul_zero, Nat.add_zero]
    refine Eq.trans (b := (nat_carried.f o).bind fun t599 => ((nat_number_row.f t599).bind fun t602 => (some (t602, true)))) ?_ ?_
    · rw [nat_Of.l0_eq]
      unfold nat_Of.s0
      rw [yn (by omega)]
    · have h1 : (D9 (V B o).toNat).length ≤ o.length + 1 := D_len_V B2 (fun x hx => by have := Dig9 hd x hx; show 0 ≤ x ∧ x ≤ 1000000000 * 1000000000 - 1000000000; omega)
      exact bd (carried_f o (fun x hx => by have := Dig9 hd x hx; omega) (by omega)) (bd (row_f _ (by omega)) (rfl))
  | succ n ih =>
    intro s o hs hn ho hd hg
    by_cases h0 : s.size = 0
    · exact ih s o (by omega) (by omega) ho hd hg
    · have hl := Lib.size_eq s
      obtain ⟨lo, hlo⟩ : ∃ lo : Nat, lo = s.size - 9 := ⟨_, rfl⟩
      have e1 : (if true = true then (if (wrap64 ((s.size : Int) - (9 : Int))) < (0 : Int) then (0 : Int) else (wrap64 ((s.size : Int) - (9 : Int)))) else (if (0 : Int) < (wrap64 ((s.size : Int) - (9 : Int))) then (0 : Int) else (wrap64 ((s.size : Int) - (9 : Int))))) = (lo : Int) := by
        rw [w64 (by omega) (by omega), if_pos rfl]
        split <;> omega
      have e2 : (s.extract lo s.size).data.toList = s.data.toList.drop lo := by
        rw [Lib.extract_data, List.take_of_length_le (by simp; try omega)]
      have e3 : (s.extract 0 lo).data.toList = s.data.toList.take lo := by
        rw [Lib.extract_data]; simp
      have z2 : (s.extract lo s.size).size = s.size - lo := by rw [Lib.size_eq, e2, List.length_drop]; omega
      have z3 : (s.extract 0 lo).size = lo := by rw [Lib.size_eq, e3, List.length_take]; omega
      have hp := parse_f (s.extract lo s.size) (by rw [e2]; exact fun c hc => hg c (List.mem_of_mem_drop hc)) (by rw [e2]; intro h; have := congrArg List.length h; simp at this; omega) (by omega)
      rw [e2] at hp
      have hlt : dv (s.data.toList.drop lo) < 1000000000 := by
        have h1 := dv_lt (s.data.toList.drop lo) (fun c hc => hg c (List.mem_of_mem_drop hc))
        have h2 : 10 ^ (s.data.toList.drop lo).length ≤ 10 ^ 9 := Nat.pow_le_pow_right (by omega) (by simp; omega)
        omega
      have ih' := ih (s.extract 0 lo) (o ++ [((dv (s.data.toList.drop lo) : Nat) : Int)]) (by omega) (by omega) (by simp; omega) (Dig.snoc hd (by omega) (by show _ < (1000000000 : Int); omega)) (by rw [e3]; exact fun c hc => hg c (List.mem_of_mem_take hc))
      have hv0 := V_nonneg (b := (B : Int)) (by decide) hd.nonneg
      have ev : (V B (o ++ [((dv (s.data.toList.drop lo) : Nat) : Int)])).toNat + B ^ (o ++ [((dv (s.data.toList.drop lo) : Nat) : Int)]).length * dv (s.extract 0 lo).data.toList = (V B o).toNat + B ^ o.length * dv s.data.toList := by
        rw [V_snoc, e3, List.length_append, List.length_singleton, Nat.pow_succ]
        have a1 : (B : Int) ^ o.length * ((dv (s.data.toList.drop lo) : Nat) : Int) = ((B ^ o.length * dv (s.data.toList.drop lo) : Nat) : Int) := by rw [Int.natCast_mul]; simp
        rw [a1, Int.toNat_add hv0 (Int.natCast_nonneg _), Int.toNat_natCast]
        have a2 : dv s.data.toList = dv (s.data.toList.take lo) * 10 ^ (s.data.toList.drop lo).length + dv (s.data.toList.drop lo) := by rw [← dv_append, List.take_append_drop]
        have a3 : dv (s.data.toList.take lo) * 10 ^ (s.data.toList.drop lo).length = dv (s.data.toList.take lo) * B := by
          by_cases h9 : 9 ≤ s.size
          · rw [show (s.data.toList.drop lo).length = 9 by rw [List.length_drop]; omega]
          · rw [show lo = 0 by omega]; simp [dv]
        rw [a2, a3, Nat.mul_add, Nat.add_assoc, Nat.mul_comm (dv (s.data.toList.take lo)) B, ← Nat.mul_assoc, Nat.add_comm (B ^ o.length * dv (s.data.toList.drop lo))]
      rw [ev] at ih'
      refine Eq.trans ?_ ih'
      rw [nat_Of.l0_eq]
      unfold nat_Of.s0
      rw [yp (by omega), e1, yp (by omega), yp (by omega), Int.toNat_natCast, hp]
      simp only [Option.bind_some]
      rw [yp (by omega), yp (by omega), yp (by omega)]

/-- A number as Of takes it. -/
def okNum (s : ByteArray) : Bool := decide (s.size ≠ 0) && !(decide (1 < s.size) && decide (bt s 0 = 48)) && allDig s.data.toList
theorem toList_nil (s : ByteArray) : s.toList = ([] : List UInt8) ↔ s.size = 0 := by
  obtain ⟨⟨l⟩⟩ := s
  simp [ByteArray.size]
theorem Of_f (s : ByteArray) (hs : s.size ≤ 90000) : nat_Of.f s = some (if okNum s = true then (D9 (dv s.data.toList), true) else ([], false)) := by
  have yes : (∀ c ∈ s.data.toList, isDig c) → nat_Of.l0 s [] = some (D9 (dv s.data.toList), true) := fun h => by
    have := of_go s.size s [] (Nat.le_refl _) (by omega) (by simp; omega) (Dig.nil _) h
    simp only [V, List.length_nil, Nat.pow_zero, Nat.one_mul, Int.toNat_zero, Nat.zero_add] at this
    exact this
  have tail : ((nat_decimal.f s).bind fun t => bif (!(Yc.y t)) then some (([] : List Int), false) else nat_Of.l0 s []) = some (if allDig s.data.toList = true then (D9 (dv s.data.toList), true) else ([], false)) := by
    refine bd (decimal_f s (by omega)) ?_
    rw [Yc.h]
    by_cases h : ∀ c ∈ s.data.toList, isDig c
    · rw [if_pos (allDig_iff.2 h), allDig_iff.2 h]; exact yes h
    · rw [if_neg (by rw [allDig_no h]; simp), allDig_no h]; rfl
  unfold nat_Of.f
  by_cases h0 : s.size = 0
  · rw [show okNum s = false by simp [okNum, h0], if_neg (by simp)]
    exact yb (by rw [(toList_nil s).2 h0]; decide +kernel)
  · rw [yf (by rw [beq_eq_false_iff_ne]; exact fun h => h0 ((toList_nil s).1 (h.trans (by decide +kernel))))]
    by_cases h1 : 1 < s.size
    · rw [yp (by omega), yb rfl, yp (by omega)]
      by_cases h2 : bt s 0 = 48
      · rw [show okNum s = false by simp [okNum, h1, h2], if_neg (by simp)]
        exact yp h2
      · rw [show okNum s = allDig s.data.toList by simp [okNum, h0, h1, h2]]
        exact (yn h2).trans tail
    · rw [show okNum s = allDig s.data.toList by simp [okNum, h0, h1], yn (by omega)]
      exact tail
end Go.Proofs.YtbjgmnliholmpaaDoor.M

/- What Text computes: the decimal digits of the number that a row stands for; and that Of reads them back. -/
namespace Go.Proofs.YtbjgmnliholmpaaDoor.M
open Go Go.RowKit Go.Proofs.YtbjgmnliholmpaaDoor.V Go.Proofs.YtbjgmnliholmpaaDoor.X
variable [Yc]
set_option linter.unusedSectionVars false
open Go.Lib (decDigits)

theorem dd_small {n : Nat} (h : n < 10) : decDigits n = [UInt8.ofNat (48 + n)] := by rw [decDigits, dif_pos h]
theorem dd_big {n : Nat} (h : ¬ n < 10) : decDigits n = decDigits (n / 10) ++ [UInt8.ofNat (48 + n % 10)] := by rw [decDigits, dif_neg h]
theorem dig_of {d : Nat} (h : d < 10) : (UInt8.ofNat (48 + d)).toNat = 48 + d := by
  rw [UInt8.toNat_ofNat', Nat.mod_eq_of_lt (by omega)]
theorem dd_dig (n : Nat) : ∀ c ∈ decDigits n, isDig c := by
  induction n using Nat.strongRecOn with
  | _ n ih =>
    by_cases h : n < 10
    · rw [dd_small h]
      intro c hc
      rw [List.mem_singleton] at hc
      subst hc
      unfold isDig
      rw [dig_of h]
      omega
    · rw [dd_big h]
      intro c hc
      rcases List.mem_append.1 hc with h1 | h1
      · exact ih (n / 10) (by omega) c h1
      · rw [List.mem_singleton] at h1
        subst h1
        unfold isDig
        rw [dig_of (by omega)]
        omega
theorem dd_dv (n : Nat) : dv (decDigits n) = n := by
  induction n using Nat.strongRecOn with
  | _ n ih =>
    by_cases h : n < 10
    · rw [dd_small h, dv_one, dig_of h]; omega
    · rw [dd_big h, dv_append, ih (n / 10) (by omega), dv_one, dig_of (by omega)]
      simp
      omega
theorem dd_ne (n : Nat) : decDigits n ≠ [] := by
  by_cases h : n < 10
  · rw [dd_small h]; simp
  · rw [dd_big h]; simp
theorem dd_len {n k : Nat} (h : n < 10 ^ (k + 1)) : (decDigits n).length ≤ k + 1 := by
  induction k generalizing n with
  | zero => rw [dd_small (by simpa using h)]; simp
  | succ k ih =>
    by_cases h1 : n < 10
    · rw [dd_small h1]; simp
    · rw [dd_big h1, List.length_append, List.length_singleton]
      have := ih (n := n / 10) (by rw [Nat.pow_succ] at h; omega)
      omega
/-- A number's first digit is no nought, but nought's. -/
theorem dd_head (n : Nat) (h : n ≠ 0) : ∃ c r, decDigits n = c :: r ∧ c.toNat ≠ 48 := by
  induction n using Nat.strongRecOn with
  | _ n ih =>
    by_cases h1 : n < 10
    · exact ⟨_, [], dd_small h1, by rw [dig_of h1]; omega⟩
    · obtain ⟨c, r, e, hc⟩ := ih (n / 10) (by omega) (by omega)
      exact ⟨c, r ++ [UInt8.ofNat (48 + n % 10)], by rw [dd_big h1, e]; rfl, hc⟩

theorem repeatL_eq (c : UInt8) (m : Nat) : Lib.repeatL [c] m = List.replicate m c := by
  induction m with
  | zero => rfl
  | succ m ih => rw [Lib.repeatL, ih, List.replicate_succ]; rfl
/-- The last k digits of a number. -/
def padk : Nat → Nat → List UInt8
  | 0, _ => []
  | k + 1, b => padk k (b / 10) ++ [UInt8.ofNat (48 + b % 10)]
theorem padk_zero (k : Nat) : padk k 0 = List.replicate k 48 := by
  induction k with
  | zero => rfl
  | succ k ih => rw [padk, Nat.zero_div, ih, List.replicate_succ']; rfl
theorem padk_eq (k b : Nat) (h : b < 10 ^ (k + 1)) : padk (k + 1) b = List.replicate (k + 1 - (decDigits b).length) 48 ++ decDigits b := by
  induction k generalizing b with
  | zero =>
    have hb : b < 10 := by simpa using h
    rw [padk, padk, dd_small hb, Nat.mod_eq_of_lt hb]; simp
  | succ k ih =>
    rw [padk]
    by_cases hb : b < 10
    · rw [Nat.div_eq_of_lt hb, padk_zero, dd_small hb, Nat.mod_eq_of_lt hb]; simp
    · rw [ih (b / 10) (by rw [Nat.pow_succ] at h; omega), dd_big hb, List.length_append, List.length_singleton, ← List.append_assoc]
      congr 2
      congr 1
      omega
theorem dd_split (k : Nat) : ∀ a b : Nat, a ≠ 0 → b < 10 ^ k → decDigits (a * 10 ^ k + b) = decDigits a ++ padk k b := by
  induction k with
  | zero =>
    intro a b _ hb
    obtain rfl : b = 0 := by simpa using hb
    simp [padk]
  | succ k ih =>
    intro a b ha hb
    rw [Nat.pow_succ] at hb ⊢
    have hp : 1 ≤ 10 ^ k := Nat.pow_pos (by omega)
    have hm : 1 * (1 * 10) ≤ a * (10 ^ k * 10) := Nat.mul_le_mul (by omega) (Nat.mul_le_mul_right _ hp)
    have hm2 : a * (10 ^ k * 10) = a * 10 ^ k * 10 := (Nat.mul_assoc _ _ _).symm
    rw [hm2] at hm ⊢
    rw [dd_big (by omega), show (a * 10 ^ k * 10 + b) / 10 = a * 10 ^ k + b / 10 by omega, show (a * 10 ^ k * 10 + b) % 10 = b % 10 by omega, ih a (b / 10) ha (by omega), padk, List.append_assoc]
theorem txtPad_eq (d : Nat) (h : d < 1000000000) : nat_txtPad (d : Int) = padk 9 d := by
  unfold nat_txtPad
  rw [Int.toNat_natCast, repeatL_eq, padk_eq 8 d (by omega)]
theorem D9_1' {x : Nat} (h0 : x ≠ 0) (h1 : x < B) : D9 x = [(x : Int)] := by
  show D B x = _
  rw [D_pos B2 h0, Nat.mod_eq_of_lt h1, Nat.div_eq_of_lt h1, D_zero]
theorem txt_low (n : Nat) : ∀ j : Nat, n / B ^ j ≠ 0 → decDigits (n / B ^ j) ++ nat_txtLow (D9 n) j = decDigits n := by
  intro j
  induction j with
  | zero => intro _; simp [nat_txtLow]
  | succ j ih =>
    intro h
    have hd : n / B ^ (j + 1) = n / B ^ j / B := by rw [Nat.pow_succ, Nat.div_div_eq_div_mul]
    have h0 : n / B ^ j ≠ 0 := by
      intro h0
      rw [hd, h0] at h
      exact h (Nat.zero_div _)
    have hg : (D9 n).getD j 0 = ((n / B ^ j % B : Nat) : Int) := by
      have e : (D9 n).drop j = D9 (n / B ^ j) := D_drop B2 n j
      have e2 : D9 (n / B ^ j) = ((n / B ^ j % B : Nat) : Int) :: D9 (n / B ^ j / B) := D_pos B2 h0
      rw [e2] at e
      have : (D9 n)[j]? = some ((n / B ^ j % B : Nat) : Int) := by
        have h1 : ((D9 n).drop j)[0]? = (D9 n)[j + 0]? := List.getElem?_drop
        rw [e] at h1
        exact h1.symm
      rw [List.getD_eq_getElem?_getD, this]; rfl
    have hm : n / B ^ j % B < 1000000000 := Nat.mod_lt _ (by decide)
    rw [nat_txtLow, hg, txtPad_eq _ hm, ← List.append_assoc, hd, ← dd_split 9 _ _ (by rw [← hd]; exact h) hm]
    have e3 : n / B ^ j / B * 10 ^ 9 + n / B ^ j % B = n / B ^ j := by
      have := Nat.div_add_mod (n / B ^ j) B
      rw [Nat.mul_comm] at this
      exact this
    rw [e3]
    exact ih h0
theorem txt_eq (n : Nat) : nat_txt (D9 n) = decDigits n := by
  by_cases h : n = 0
  · subst h
    rw [show D9 0 = [] from D_zero B]
    simp [nat_txt, nat_txtLow]
  · have hl : 0 < (D9 n).length := by
      rcases Nat.eq_zero_or_pos (D9 n).length with h1 | h1
      · exact absurd (D9_nil.1 h1) h
      · exact h1
    obtain ⟨j, hj⟩ : ∃ j, (D9 n).length = j + 1 := ⟨(D9 n).length - 1, by omega⟩
    have h1 : n < B ^ (j + 1) := (D_len B2).1 (by show (D9 n).length ≤ j + 1; omega)
    have h2 : ¬ n < B ^ j := fun h2 => by have : (D9 n).length ≤ j := (D_len B2).2 h2; omega
    have h0 : n / B ^ j ≠ 0 := fun h3 => h2 ((Nat.div_eq_zero_iff_lt (Nat.pow_pos (by decide))).1 h3)
    have hlt : n / B ^ j < B := (Nat.div_lt_iff_lt_mul (Nat.pow_pos (by decide))).2 (by rw [Nat.mul_comm, ← Nat.pow_succ]; exact h1)
    have hg : (D9 n).getD j 0 = ((n / B ^ j : Nat) : Int) := by
      have e : (D9 n).drop j = D9 (n / B ^ j) := D_drop B2 n j
      have e2 : D9 (n / B ^ j) = [((n / B ^ j : Nat) : Int)] := D9_1' h0 hlt
      rw [e2] at e
      have h4 : ((D9 n).drop j)[0]? = (D9 n)[j + 0]? := List.getElem?_drop
      rw [e] at h4
      have : (D9 n)[j]? = some ((n / B ^ j : Nat) : Int) := h4.symm
      rw [List.getD_eq_getElem?_getD, this]; rfl
    rw [nat_txt, hj, Nat.add_sub_cancel, hg, Int.toNat_natCast]
    exact txt_low n j h0
/-- The bytes that Text answers. -/
def txt (n : Nat) : ByteArray := ⟨(decDigits n).toArray⟩
theorem txt_list (n : Nat) : (txt n).data.toList = decDigits n := by simp [txt]
theorem dd_len9 (n N : Nat) (h : (D9 n).length ≤ N) : (decDigits n).length ≤ 9 * N + 1 := by
  have h1 : n < B ^ N := (D_len B2).1 h
  have h2 : n < 10 ^ (9 * N) := by rw [Nat.pow_mul]; exact h1
  exact dd_len (Nat.lt_of_lt_of_le h2 (Nat.pow_le_pow_right (by omega) (by omega)))
theorem Text_f (l : List Int) (h : Row 10000 l) : nat_Text.f l = some (txt (val l)) := by
  have h1 := h.len
  have h2 := dd_len9 (val l) 10001 h1
  unfold nat_Text.f
  refine bd (h.of (by omega)) (Eq.trans ?_ (rfl))
  rw [if_pos (by rw [List.all_eq_true]; intro d hd; exact decide_eq_true (D9_lt _ d hd)), if_pos (by omega), txt_eq, if_pos (by omega)]
  rfl
theorem txt_size (n : Nat) : (txt n).size = (decDigits n).length := by rw [Lib.size_eq, txt_list]
theorem okNum_of (s : ByteArray) (h : ∀ c ∈ s.data.toList, isDig c) (c : UInt8) (r : List UInt8) (e : s.data.toList = c :: r) (hc : c.toNat ≠ 48 ∨ r = []) : okNum s = true := by
  have hz := Lib.size_eq s
  rw [e, List.length_cons] at hz
  have hb := bt_eq s 0 (by omega)
  simp only [e, List.getElem_cons_zero] at hb
  unfold okNum
  rw [allDig_iff.2 h]
  rcases hc with hc | hc
  · have : decide (bt s 0 = 48) = false := decide_eq_false (fun h => by
      have h' : bt s ((0 : Nat) : Int) = 48 := h
      rw [hb] at h'; omega)
    have h0 : decide (s.size ≠ 0) = true := decide_eq_true (by omega)
    rw [h0, this]
    simp
  · rw [hc] at hz
    have : decide (1 < s.size) = false := decide_eq_false (by simp at hz; omega)
    have h0 : decide (s.size ≠ 0) = true := decide_eq_true (by omega)
    rw [h0, this]
    simp
theorem okNum_txt (n : Nat) : okNum (txt n) = true := by
  by_cases h : n = 0
  · subst h
    exact okNum_of _ (by rw [txt_list]; exact dd_dig 0) 48 [] (by rw [txt_list, dd_small (by omega)]; rfl) (.inr rfl)
  · obtain ⟨c, r, e, hc⟩ := dd_head n h
    exact okNum_of _ (by rw [txt_list]; exact dd_dig n) c r (by rw [txt_list, e]) (.inl hc)
theorem Of_txt (n : Nat) (h : (decDigits n).length ≤ 90000) : nat_Of.f (txt n) = some (D9 n, true) := by
  have := Of_f (txt n) (by rw [txt_size]; exact h)
  rw [if_pos (okNum_txt n), txt_list, dd_dv] at this
  exact this
end Go.Proofs.YtbjgmnliholmpaaDoor.M

/- What num.Text and num.Parse compute. -/
namespace Go.Proofs.YtbjgmnliholmpaaDoor.M
open Go Go.RowKit Go.Proofs.YtbjgmnliholmpaaDoor.V Go.Proofs.YtbjgmnliholmpaaDoor.X
variable [Yc]
set_option linter.unusedSectionVars false
/-- The text of a number. -/
def ntxt (z : Int) : ByteArray := if ng z = true then (⟨#[45]⟩ : ByteArray) ++ txt z.natAbs else txt z.natAbs
theorem nText_f (b : Bool) (l : List Int) (h : Row 5000 l) : num_Text.f b l = some (ntxt (mk b (val l))) := by
  have n1 := h.len
  have o1 := nof_f b l (h.le (show 5000 ≤ 10000 by decide))
  have lx : (D9 (mk b (val l)).natAbs).length ≤ 5001 := by rw [mk_abs]; exact n1
  generalize mk b (val l) = z at *
  have ht := Text_f (D9 z.natAbs) (Row.D (by omega))
  rw [val_D] at ht
  have hsz : (txt z.natAbs).size ≤ 100000 := by
    rw [txt_size]; have := dd_len9 z.natAbs 5001 lx; omega
  unfold num_Text.f ntxt
  simp only [Yc.h]
  refine bd o1 ?_
  dsimp only [nz]
  by_cases hs : ng z = true
  · rw [if_pos hs, hs]
    refine bd ht ?_
    rw [decide_eq_true (by omega)]
    rfl
  · rw [if_neg hs, Bool.eq_false_iff.2 hs]
    exact bd ht rfl
/-- Has a text a sign, and what stands behind it. -/
def sg (s : ByteArray) : Bool := decide (0 < s.size) && decide (bt s 0 = 45)
def un (s : ByteArray) : ByteArray := if sg s = true then s.extract 1 s.size else s
theorem cut_f (s : ByteArray) : strings_CutPrefix.f s (⟨#[45]⟩ : ByteArray) = some (un s, sg s) := by
  have h1 : (((⟨#[45]⟩ : ByteArray).size : Int)) = 1 := rfl
  have h2 : ((⟨#[45]⟩ : ByteArray).toList) = [45] := by decide +kernel
  unfold strings_CutPrefix.f in_stringslite_CutPrefix.f in_stringslite_HasPrefix.f
  simp only [Yc.h]
  rw [h1, h2]
  by_cases h0 : 0 < s.size
  · rw [decide_eq_true (show (1 : Int) ≤ (s.size : Int) by omega), decide_eq_true (show (0 : Int) ≤ 1 by decide)]
    have hb : ((s.extract 0 (1 : Int).toNat).toList == [45]) = decide (bt s 0 = 45) := by
      rw [Lib.extract_toList]
      have hb := bt_eq s 0 h0
      have hl := Lib.size_eq s
      cases hd : s.data.toList with
      | nil => rw [hd, List.length_nil] at hl; omega
      | cons c r =>
        have e : bt s 0 = (c.toNat : Int) := by
          rw [show ((0 : Nat) : Int) = 0 from rfl] at hb
          rw [hb]
          have hg : ∀ (h : 0 < s.data.toList.length), s.data.toList[0]'h = c := by rw [hd]; intro h; rfl
          rw [hg]
        rw [e]
        simp only [List.drop_zero, Int.toNat_one, Nat.sub_zero, List.take_succ_cons, List.take_zero]
        rw [Bool.eq_iff_iff, beq_iff_eq, decide_eq_true_iff]
        constructor
        · intro h; injection h with h _; subst h; rfl
        · intro h
          have : c = 45 := UInt8.toNat_inj.1 (by rw [show c.toNat = 45 by omega]; rfl)
          rw [this]
    simp only [cond_true, hb, Option.bind_some]
    unfold un sg
    by_cases h : bt s 0 = 45
    · rw [decide_eq_true h, decide_eq_true h0]
      rfl
    · rw [decide_eq_false h, Bool.and_false]
      rfl
  · rw [decide_eq_false (show ¬ (1 : Int) ≤ (s.size : Int) by omega)]
    unfold un sg
    simp [h0]
def okP (s : ByteArray) : Bool := okNum (un s) && !(sg s && decide (dv (un s).data.toList = 0))
def vP (s : ByteArray) : Int := mk (sg s) (dv (un s).data.toList)
def rP (s : ByteArray) : Bool × List Int × Bool := if okP s = true then (ng (vP s), D9 (vP s).natAbs, true) else (false, [], false)
theorem un_size (s : ByteArray) : (un s).size ≤ s.size := by
  unfold un
  by_cases h : sg s = true
  · rw [if_pos h, Lib.size_eq, Lib.extract_data, Lib.size_eq s]
    simp
  · rw [if_neg h]; exact Nat.le_refl _
theorem ok_dig {s : ByteArray} (h : okNum s = true) : ∀ c ∈ s.data.toList, isDig c := by
  unfold okNum at h
  simp only [Bool.and_eq_true] at h
  exact allDig_iff.1 h.2
theorem dv_len {s : ByteArray} (h : okNum s = true) : (D9 (dv s.data.toList)).length ≤ s.size := by
  refine (D_len B2).2 (Nat.lt_of_lt_of_le (dv_lt _ (ok_dig h)) ?_)
  rw [Lib.size_eq]
  exact Nat.pow_le_pow_left (by decide) _
theorem nParse_f (s : ByteArray) (hs : s.size ≤ 9000) : num_Parse.f s = some (rP s) := by
  have hu := un_size s
  have ho := Of_f (un s) (by omega)
  unfold num_Parse.f
  simp only [Yc.h, out_f]
  refine bd (cut_f s) (bd ho ?_)
  unfold rP okP vP
  by_cases h : okNum (un s) = true
  · have hl := dv_len h
    have hm := made_D (dv (un s).data.toList) (sg s) (by omega)
    rw [if_pos h, h]
    dsimp only
    by_cases hg : sg s = true
    · rw [hg] at hm ⊢
      by_cases h0 : dv (un s).data.toList = 0
      · rw [if_neg (by simp [h0]), decide_eq_true ((D9_lenI _).2 h0)]
        rfl
      · rw [if_pos (by simp [h0]), decide_eq_false (fun hh => h0 ((D9_lenI _).1 hh))]
        exact bd hm rfl
    · have hg' : sg s = false := Bool.eq_false_iff.2 hg
      rw [hg'] at hm ⊢
      rw [if_pos (by simp)]
      exact bd hm rfl
  · rw [if_neg h, if_neg (by simp [h])]
    rfl
end Go.Proofs.YtbjgmnliholmpaaDoor.M

/- num's awake answers true: the closed example, by the functions' laws. -/
namespace Go.Proofs.YtbjgmnliholmpaaDoor.M
open Go Go.RowKit Go.Proofs.YtbjgmnliholmpaaDoor.V Go.Proofs.YtbjgmnliholmpaaDoor.X
variable [Yc]
set_option linter.unusedSectionVars false
theorem small_row {z : Int} (h : z.natAbs < 1000) : (D9 z.natAbs).length ≤ 1 := (D_len B2 (n := z.natAbs) (k := 1)).2 (Nat.lt_of_lt_of_le h (by decide))
theorem small_Of (z : Int) (h : z.natAbs < 1000) : num_Of.f z = some (az z) := nOf_f z (by omega) (by omega)
theorem small_dm (x y : Int) (hx : x.natAbs < 1000) (hy : y.natAbs < 1000) (h0 : y ≠ 0) : num_DivMod.f (ng x) (D9 x.natAbs) (ng y) (D9 y.natAbs) = some (ng (qd x y), D9 (qd x y).natAbs, ng (rs x y), D9 (rs x y).natAbs, 0) := by
  have h1 := small_row hx
  have h2 := small_row hy
  have := nDivMod_f (ng x) (D9 x.natAbs) (ng y) (D9 y.natAbs) (Row.D (by omega)) (Row.D (by omega))
  rwa [val_D, val_D, mk_self, mk_self, if_neg h0] at this
theorem small_same (x y : Int) (hx : x.natAbs < 1000) (h : x = y) : whetstonelaw02_same.f (ng x) (D9 x.natAbs) (ng y) (D9 y.natAbs) = some true := by
  have h1 := small_row hx
  have := nsame_az x y (by show (D9 x.natAbs).length ≤ _; omega)
  rwa [decide_eq_true h] at this
theorem awake_f : whetstonelaw02_awake.f = some true := by
  have p1 : num_Parse.f (⟨#[45, 48]⟩ : ByteArray) = some (false, [], false) := by
    have := nParse_f (⟨#[45, 48]⟩ : ByteArray) (by decide)
    rwa [show rP (⟨#[45, 48]⟩ : ByteArray) = (false, [], false) by unfold rP; rw [show okP (⟨#[45, 48]⟩ : ByteArray) = false by decide +kernel]; rfl] at this
  have p2 : num_Parse.f (⟨#[43, 49]⟩ : ByteArray) = some (false, [], false) := by
    have := nParse_f (⟨#[43, 49]⟩ : ByteArray) (by decide)
    rwa [show rP (⟨#[43, 49]⟩ : ByteArray) = (false, [], false) by unfold rP; rw [show okP (⟨#[43, 49]⟩ : ByteArray) = false by decide +kernel]; rfl] at this
  have g1 : num_Gcd.f [(⟨ng (-4), D9 (-4 : Int).natAbs⟩ : S_api_Int), ⟨ng 6, D9 (6 : Int).natAbs⟩, ⟨ng 0, D9 (0 : Int).natAbs⟩] = some (az 2) := by
    have r (z : Int) (h : z.natAbs < 1000) : U32 (D9 z.natAbs) := (Row.D (N := 1) (small_row h)).1
    have := nGcd_f [(⟨ng (-4), D9 (-4 : Int).natAbs⟩ : S_api_Int), ⟨ng 6, D9 (6 : Int).natAbs⟩, ⟨ng 0, D9 (0 : Int).natAbs⟩] (fun x hx => by simp only [List.mem_cons, List.not_mem_nil, or_false] at hx; rcases hx with rfl | rfl | rfl <;> exact r _ (by decide)) (by have h1 := small_row (z := -4) (by decide); have h2 := small_row (z := 6) (by decide); have h3 := small_row (z := 0) (by decide); simp only [tot, List.length_cons, List.length_nil]; omega)
    rwa [show gcdV [(⟨ng (-4), D9 (-4 : Int).natAbs⟩ : S_api_Int), ⟨ng 6, D9 (6 : Int).natAbs⟩, ⟨ng 0, D9 (0 : Int).natAbs⟩] 0 = 2 by simp only [gcdV, iv, mk_abs, val_D]; decide] at this
  have t1 : num_Text.f true ([] : List Int) = some (⟨#[48]⟩ : ByteArray) := by
    have := nText_f true [] ⟨fun x hx => absurd hx (by simp), by simp⟩
    rwa [show ntxt (mk true (val [])) = (⟨#[48]⟩ : ByteArray) by show ntxt 0 = _; unfold ntxt; rw [if_neg (by decide)]; show (⟨(Lib.decDigits 0).toArray⟩ : ByteArray) = _; rw [dd_small (by decide)]; rfl] at this
  unfold whetstonelaw02_awake.f
  simp only [Yc.h]
  refine bd (small_Of (-7) (by decide)) (bd (small_Of 2 (by decide)) (bd (small_dm (-7) 2 (by decide) (by decide) (by decide)) ?_))
  refine bd (small_Of 7 (by decide)) (bd (small_Of (-2) (by decide)) (bd (small_dm 7 (-2) (by decide) (by decide) (by decide)) ?_))
  refine bd (small_Of (-7) (by decide)) (bd (small_Of (-2) (by decide)) (bd (small_dm (-7) (-2) (by decide) (by decide) (by decide)) ?_))
  refine bd p1 (bd p2 (bd (small_Of (-4) (by decide)) ?_))
  refine bd (small_same (qd (-7) 2) (-4) (by decide) (by decide)) ?_
  simp only [cond_true, eq_self_iff_true, decide_true]
  refine bd (small_Of 1 (by decide)) ?_
  refine bd (small_same (rs (-7) 2) 1 (by decide) (by decide)) ?_
  simp only [cond_true, eq_self_iff_true, decide_true]
  refine bd (small_Of (-4) (by decide)) ?_
  refine bd (small_same (qd 7 (-2)) (-4) (by decide) (by decide)) ?_
  simp only [cond_true, eq_self_iff_true, decide_true]
  refine bd (small_Of (-1) (by decide)) ?_
  refine bd (small_same (rs 7 (-2)) (-1) (by decide) (by decide)) ?_
  simp only [cond_true, eq_self_iff_true, decide_true]
  refine bd (small_Of 3 (by decide)) ?_
  refine bd (small_same (qd (-7) (-2)) 3 (by decide) (by decide)) ?_
  simp only [cond_true, eq_self_iff_true, decide_true]
  refine bd (small_Of (-1) (by decide)) ?_
  refine bd (small_same (rs (-7) (-2)) (-1) (by decide) (by decide)) ?_
  simp only [cond_true, eq_self_iff_true, decide_true]
  refine bd (small_Of (-4) (by decide)) (bd (small_Of 6 (by decide)) (bd (small_Of 0 (by decide)) (bd g1 (bd (small_Of 2 (by decide)) ?_))))
  refine bd (small_same 2 2 (by decide) rfl) ?_
  simp only [cond_true, eq_self_iff_true, decide_true]
  refine bd t1 ?_
  rw [show ((⟨#[48]⟩ : ByteArray).toList == (⟨#[48]⟩ : ByteArray).toList) = true by decide +kernel]
  rfl
end Go.Proofs.YtbjgmnliholmpaaDoor.M

/- The law NumDivides answers true, in plain Lean over its printed form. -/
namespace Go.Proofs.YtbjgmnliholmpaaDoor.M
open Go Go.RowKit Go.Proofs.YtbjgmnliholmpaaDoor.V Go.Proofs.YtbjgmnliholmpaaDoor.X
variable [Yc]
set_option linter.unusedSectionVars false
set_option linter.unusedSimpArgs false
theorem mkv (z : Int) : mk (ng z) (val (D9 z.natAbs)) = z := by rw [val_D, mk_self]
theorem rs_dvd {x y : Int} (h : y.natAbs ∣ x.natAbs) : rs x y = 0 := by
  unfold rs
  rw [Nat.mod_eq_zero_of_dvd h, if_neg (by simp)]
  simp [mk]
theorem cmpl (b : Bool) (l : List Int) (y : Int) (hl : Row 3000 l) (hy : ln y ≤ 3000) : num_Cmp.f b l (ng y) (D9 y.natAbs) = some (sgn (mk b (val l)) y) := by
  have := nCmp_f b l (ng y) (D9 y.natAbs) hl (Row.D hy)
  rwa [mkv] at this
theorem cmpr (x : Int) (b : Bool) (l : List Int) (hx : ln x ≤ 3000) (hl : Row 3000 l) : num_Cmp.f (ng x) (D9 x.natAbs) b l = some (sgn x (mk b (val l))) := by
  have := nCmp_f (ng x) (D9 x.natAbs) b l (Row.D hx) hl
  rwa [mkv] at this
theorem cmpz (x y : Int) (hx : ln x ≤ 3000) (hy : ln y ≤ 3000) : num_Cmp.f (ng x) (D9 x.natAbs) (ng y) (D9 y.natAbs) = some (sgn x y) := by
  have := cmpl (ng x) (D9 x.natAbs) y (Row.D hx) hy
  rwa [mkv] at this
theorem dmz (x y : Int) (hx : ln x ≤ 3000) (hy : ln y ≤ 3000) (h0 : y ≠ 0) : num_DivMod.f (ng x) (D9 x.natAbs) (ng y) (D9 y.natAbs) = some (ng (qd x y), D9 (qd x y).natAbs, ng (rs x y), D9 (rs x y).natAbs, 0) := by
  have := nDivMod_f (ng x) (D9 x.natAbs) (ng y) (D9 y.natAbs) (Row.D hx) (Row.D hy)
  rwa [mkv, mkv, if_neg h0] at this
theorem dmr (x : Int) (b : Bool) (l : List Int) (hx : ln x ≤ 3000) (hl : Row 3000 l) (h0 : mk b (val l) ≠ 0) : num_DivMod.f (ng x) (D9 x.natAbs) b l = some (ng (qd x (mk b (val l))), D9 (qd x (mk b (val l))).natAbs, ng (rs x (mk b (val l))), D9 (rs x (mk b (val l))).natAbs, 0) := by
  have := nDivMod_f (ng x) (D9 x.natAbs) b l (Row.D hx) hl
  rwa [mkv, if_neg h0] at this
theorem ln_small {z : Int} (h : z.natAbs < 1000) : ln z ≤ 1 := small_row h
theorem ln_qd (x y : Int) : ln (qd x y) ≤ ln x + 2 := by
  unfold qd
  have h1 := ln_add (mk (ng x != ng y) (x.natAbs / y.natAbs)) (if (ng x != ng y) = true ∧ x.natAbs % y.natAbs ≠ 0 then -1 else 0)
  have h2 : ln (mk (ng x != ng y) (x.natAbs / y.natAbs)) ≤ ln x := by rw [ln_mk]; exact D_len_mono B2 (Nat.div_le_self _ _)
  have h3 : ln (if (ng x != ng y) = true ∧ x.natAbs % y.natAbs ≠ 0 then -1 else 0) ≤ 1 := by
    split
    · exact ln_small (by decide)
    · exact ln_small (by decide)
  omega
theorem ln_rs (x y : Int) (h : y ≠ 0) : ln (rs x y) ≤ ln y := by
  obtain ⟨_, h1, h2⟩ := qd_law x y h
  refine D_len_mono B2 ?_
  rcases Int.lt_or_gt_of_ne h with h3 | h3
  · have := h2 h3; omega
  · have := h1 h3; omega
theorem U32_D (n : Nat) : U32 (D9 n) := (Row.D (Nat.le_refl (D9 n).length)).1
theorem iv_z (z : Int) : iv ⟨ng z, D9 z.natAbs⟩ = z := mkv z
theorem mul2z (X Y : S_api_Int) (hX : U32 X.f1) (hY : U32 Y.f1) (h : X.f1.length + Y.f1.length ≤ 2800) : num_Mul.f [X, Y] = some (az (iv X * iv Y)) := by
  have := nMul_f [X, Y] (fun x hx => by simp at hx; rcases hx with rfl | rfl <;> assumption) (by simp only [tot, List.length_cons, List.length_nil]; omega)
  rwa [show prodI [X, Y] = iv X * iv Y by show iv X * (iv Y * 1) = _; rw [Int.mul_one]] at this
theorem add2z (X Y : S_api_Int) (hX : U32 X.f1) (hY : U32 Y.f1) (h : X.f1.length + Y.f1.length ≤ 2800) : num_Add.f [X, Y] = some (az (iv X + iv Y)) := by
  have := nAdd_f [X, Y] (fun x hx => by simp at hx; rcases hx with rfl | rfl <;> assumption) (by simp only [tot, List.length_cons, List.length_nil]; omega)
  rwa [show sumI [X, Y] = iv X + iv Y by show iv X + (iv Y + 0) = _; rw [Int.add_zero]] at this
theorem gcd2z (X Y : S_api_Int) (hX : U32 X.f1) (hY : U32 Y.f1) (h : X.f1.length + Y.f1.length ≤ 2800) : num_Gcd.f [X, Y] = some (az ((Nat.gcd (iv X).natAbs (iv Y).natAbs : Nat) : Int)) := by
  have := nGcd_f [X, Y] (fun x hx => by simp at hx; rcases hx with rfl | rfl <;> assumption) (by simp only [tot, List.length_cons, List.length_nil]; omega)
  rw [show gcdV [X, Y] 0 = Nat.gcd (iv X).natAbs (iv Y).natAbs by show Nat.gcd (Nat.gcd 0 (iv X).natAbs) (iv Y).natAbs = _; rw [Nat.gcd_zero_left]] at this
  rw [this]
  show _ = some (ng _, D9 _)
  rw [ng_false.2 (Int.natCast_nonneg _), Int.natAbs_natCast]
theorem samez (x y : Int) (hx : ln x ≤ 3000) (h : x = y) : whetstonelaw02_same.f (ng x) (D9 x.natAbs) (ng y) (D9 y.natAbs) = some true := by
  have := nsame_az x y (by omega)
  rwa [decide_eq_true h] at this
theorem div_tail (a0 : Bool) (a1 : List Int) (a2 : Bool) (a3 : List Int) (a4 : Bool) (a5 : List Int) (h1 : U32 a1) (h3 : U32 a3) (h5 : U32 a5) (ht : a1.length + (a3.length + a5.length) ≤ 1000) (y0 : mk a2 (val a3) ≠ 0) :
    ((num_Mul.f [(S_api_Int.mk (a0) a1), (S_api_Int.mk (a4) a5)]).bind fun t31 => (num_Mul.f [(S_api_Int.mk (a2) a3), (S_api_Int.mk (a4) a5)]).bind fun t32 => (num_Gcd.f [(S_api_Int.mk (t31.1) t31.2), (S_api_Int.mk (t32.1) t32.2)]).bind fun t33 => (num_Cmp.f (a4) a5 (ng 0) (D9 (0 : Int).natAbs)).bind fun t34 => bif (decide (t34 = (0 : Int))) then ((whetstonelaw02_same.f (t33.1) t33.2 (ng 0) (D9 (0 : Int).natAbs)).bind fun t35 => some (t35)) else ((num_Mul.f [(S_api_Int.mk (a0) a1), (S_api_Int.mk (a4) a5)]).bind fun t36 => (num_DivMod.f (t36.1) t36.2 (t33.1) t33.2).bind fun t37 => (num_Mul.f [(S_api_Int.mk (a2) a3), (S_api_Int.mk (a4) a5)]).bind fun t38 => (num_DivMod.f (t38.1) t38.2 (t33.1) t33.2).bind fun t39 => (num_DivMod.f (t33.1) t33.2 (a4) a5).bind fun t40 => (num_Cmp.f (t33.1) t33.2 (ng 0) (D9 (0 : Int).natAbs)).bind fun t41 => bif (decide ((0 : Int) < t41)) then (bif (decide (t37.2.2.2.2 = (0 : Int))) then (bif (decide (t39.2.2.2.2 = (0 : Int))) then (bif (decide (t40.2.2.2.2 = (0 : Int))) then ((whetstonelaw02_same.f (t37.2.2.1) t37.2.2.2.1 (ng 0) (D9 (0 : Int).natAbs)).bind fun t42 => bif (t42) then ((whetstonelaw02_same.f (t39.2.2.1) t39.2.2.2.1 (ng 0) (D9 (0 : Int).natAbs)).bind fun t43 => bif (t43) then ((whetstonelaw02_same.f (t40.2.2.1) t40.2.2.2.1 (ng 0) (D9 (0 : Int).natAbs)).bind fun t44 => some (t44)) else (some false)) else (some false)) else (some false)) else (some false)) else (some false)) else (some false))) = some true := by
  have X := mul2z ⟨a0, a1⟩ ⟨a4, a5⟩ h1 h5 (by show a1.length + a5.length ≤ _; omega)
  have Y := mul2z ⟨a2, a3⟩ ⟨a4, a5⟩ h3 h5 (by show a3.length + a5.length ≤ _; omega)
  have lx : ln (mk a0 (val a1)) ≤ a1.length + 1 := ln_iv ⟨a0, a1⟩ h1
  have ly : ln (mk a2 (val a3)) ≤ a3.length + 1 := ln_iv ⟨a2, a3⟩ h3
  have lz : ln (mk a4 (val a5)) ≤ a5.length + 1 := ln_iv ⟨a4, a5⟩ h5
  have R5 : Row 3000 a5 := (row_self h5).le (by omega)
  have c0 := cmpl a4 a5 0 R5 (by have := ln_small (z := 0) (by decide); omega)
  have d0 := fun x hx => dmr x a4 a5 hx R5
  change num_Mul.f _ = some (az (mk a0 (val a1) * mk a4 (val a5))) at X
  change num_Mul.f _ = some (az (mk a2 (val a3) * mk a4 (val a5))) at Y
  generalize mk a0 (val a1) = x at *
  generalize mk a2 (val a3) = y at *
  generalize mk a4 (val a5) = z at *
  have lX := ln_mul x z
  have lY := ln_mul y z
  have L0 := ln_small (z := 0) (by decide)
  refine bd X (bd Y ?_)
  have G := gcd2z ⟨ng (x * z), D9 (x * z).natAbs⟩ ⟨ng (y * z), D9 (y * z).natAbs⟩ (U32_D _) (U32_D _) (by show ln (x * z) + ln (y * z) ≤ _; omega)
  rw [iv_z, iv_z] at G
  obtain ⟨g, hg⟩ : ∃ g : Nat, g = Nat.gcd (x * z).natAbs (y * z).natAbs := ⟨_, rfl⟩
  rw [← hg] at G
  have e : g = z.natAbs * Nat.gcd x.natAbs y.natAbs := by rw [hg, Int.natAbs_mul, Int.natAbs_mul, Nat.gcd_mul_right, Nat.mul_comm]
  have lg : ln (g : Int) ≤ ln (x * z) + ln (y * z) := by
    show (D9 (Int.natAbs (g : Int))).length ≤ _
    rw [Int.natAbs_natCast, hg]
    exact ln_gcd _ _
  refine bd G (bd c0 ?_)
  dsimp only [az]
  by_cases z0 : z = 0
  · subst z0
    have g0 : g = 0 := by rw [e]; simp
    subst g0
    rw [decide_eq_true (show sgn (0 : Int) 0 = 0 from by decide), cond_true]
    refine bd (samez ((0 : Nat) : Int) 0 (by show ln 0 ≤ _; omega) rfl) rfl
  · rw [decide_eq_false (show ¬ sgn z 0 = 0 by rcases sgn_cases z 0 with h | h | h <;> omega), cond_false]
    have gp : 0 < g := by
      rw [e]
      exact Nat.mul_pos (by omega) (Nat.gcd_pos_of_pos_right _ (by omega))
    have gi : (g : Int) ≠ 0 := by omega
    refine bd X ?_
    refine bd (dmz (x * z) g (by omega) (by omega) gi) ?_
    refine bd Y ?_
    refine bd (dmz (y * z) g (by omega) (by omega) gi) ?_
    refine bd (d0 (g : Int) (by omega) z0) ?_
    refine bd (cmpz (g : Int) 0 (by omega) (by omega)) ?_
    rw [decide_eq_true (show (0 : Int) < sgn (g : Int) 0 by rcases sgn_cases (g : Int) 0 with h | h | h <;> omega)]
    simp only [cond_true, eq_self_iff_true, decide_true]
    have r1 : rs (x * z) g = 0 := rs_dvd (by rw [Int.natAbs_natCast, hg]; exact Nat.gcd_dvd_left _ _)
    have r2 : rs (y * z) g = 0 := rs_dvd (by rw [Int.natAbs_natCast, hg]; exact Nat.gcd_dvd_right _ _)
    have r3 : rs (g : Int) z = 0 := rs_dvd (by rw [Int.natAbs_natCast, e]; exact Nat.dvd_mul_right _ _)
    rw [r1, r2, r3]
    have s0 := samez 0 0 (by omega) rfl
    refine bd s0 ?_
    simp only [cond_true]
    refine bd s0 ?_
    simp only [cond_true]
    exact bd s0 rfl
theorem NumDivides_f (a0 : Bool) (a1 : List Int) (a2 : Bool) (a3 : List Int) (a4 : Bool) (a5 : List Int) (h1 : U32 a1) (h3 : U32 a3) (h5 : U32 a5) (g1 : a1.length ≤ 100000000000000) (g3 : a3.length ≤ 100000000000000) (g5 : a5.length ≤ 100000000000000) :
    whetstonelaw02_NumDivides.f a0 a1 a2 a3 a4 a5 = some true := by
  unfold whetstonelaw02_NumDivides.f
  simp only [Yc.h]
  refine bd awake_f ?_
  simp only [Bool.not_true, cond_false]
  refine bd (great_f _ (fun x hx => by simp at hx; rcases hx with rfl | rfl | rfl <;> assumption) (by simp)) ?_
  by_cases hb : big [S_api_Int.mk a0 a1, S_api_Int.mk a2 a3, S_api_Int.mk a4 a5] = true
  · rw [hb]; rfl
  rw [Bool.eq_false_iff.2 hb, cond_false]
  have ht : a1.length + (a3.length + a5.length) ≤ 1000 := by
    refine Nat.le_of_not_lt (fun h => hb ?_)
    show (decide (1000 < a1.length + (a3.length + (a5.length + 0))) || _) = true
    rw [decide_eq_true (by omega)]
    rfl
  have T := div_tail a0 a1 a2 a3 a4 a5 h1 h3 h5 ht
  have lx : ln (mk a0 (val a1)) ≤ a1.length + 1 := ln_iv ⟨a0, a1⟩ h1
  have ly : ln (mk a2 (val a3)) ≤ a3.length + 1 := ln_iv ⟨a2, a3⟩ h3
  have R1 : Row 3000 a1 := (row_self h1).le (by omega)
  have R3 : Row 3000 a3 := (row_self h3).le (by omega)
  have L0 := ln_small (z := 0) (by decide)
  have D := nDivMod_f a0 a1 a2 a3 R1 R3
  have C0 := cmpl a2 a3 0 R3 (by omega)
  have CR3 := fun x hx => cmpr x a2 a3 hx R3
  have CR1 := fun x hx => cmpr x a0 a1 hx R1
  have MQ := fun q (hq : ln q ≤ 1100) => mul2z ⟨ng q, D9 q.natAbs⟩ ⟨a2, a3⟩ (U32_D _) h3 (by show ln q + a3.length ≤ _; omega)
  change ∀ q, ln q ≤ 1100 → num_Mul.f _ = some (az (iv ⟨ng q, D9 q.natAbs⟩ * mk a2 (val a3))) at MQ
  generalize mk a0 (val a1) = x at *
  generalize mk a2 (val a3) = y at *
  refine bd (small_Of 0 (by decide)) (bd D (bd C0 ?_))
  dsimp only [az]
  have s0 : whetstonelaw02_same.f false [] (ng 0) (D9 (0 : Int).natAbs) = some true := by
    have := nsame_f false [] (ng 0) (D9 (0 : Int).natAbs) (by simp)
    rwa [decide_eq_true (by rw [show D9 (0 : Int).natAbs = [] from D_zero B]; rfl)] at this
  by_cases y0 : y = 0
  · rw [decide_eq_true (show sgn y 0 = 0 by rcases sgn_cases y 0 with h | h | h <;> omega), if_pos y0]
    simp only [cond_true, eq_self_iff_true, decide_true]
    refine bd s0 ?_
    simp only [cond_true]
    exact bd s0 rfl
  · rw [decide_eq_false (show ¬ sgn y 0 = 0 by rcases sgn_cases y 0 with h | h | h <;> omega), if_neg y0]
    simp only [cond_false, eq_self_iff_true, decide_true, Bool.not_true]
    obtain ⟨q1, q2, q3⟩ := qd_law x y y0
    have lq := ln_qd x y
    have lr := ln_rs x y y0
    have M := MQ (qd x y) (by omega)
    rw [iv_z] at M
    have lqy := ln_mul (qd x y) y
    have A := add2z ⟨ng (qd x y * y), D9 (qd x y * y).natAbs⟩ ⟨ng (rs x y), D9 (rs x y).natAbs⟩ (U32_D _) (U32_D _) (by show ln (qd x y * y) + ln (rs x y) ≤ _; omega)
    rw [iv_z, iv_z, q1] at A
    refine bd M (bd A ?_)
    refine bd (CR1 x (by omega)) ?_
    rw [decide_eq_true (show sgn x x = 0 by rcases sgn_cases x x with h | h | h <;> omega)]
    simp only [cond_false, Bool.not_true]
    refine bd C0 ?_
    rcases Int.lt_or_gt_of_ne y0 with h | h
    · have hr := q3 h
      rw [decide_eq_false (show ¬ (0 : Int) < sgn y 0 by rcases sgn_cases y 0 with h | h | h <;> omega)]
      simp only [cond_false]
      refine bd C0 ?_
      rw [decide_eq_true (show sgn y 0 < 0 by rcases sgn_cases y 0 with h | h | h <;> omega)]
      simp only [cond_true]
      refine bd (cmpz (rs x y) 0 (by omega) (by omega)) ?_
      rw [decide_eq_false (show ¬ (0 : Int) < sgn (rs x y) 0 by rcases sgn_cases (rs x y) 0 with h | h | h <;> omega)]
      simp only [cond_false]
      refine bd (CR3 (rs x y) (by omega)) ?_
      rw [decide_eq_false (show ¬ sgn (rs x y) y ≤ 0 by rcases sgn_cases (rs x y) y with h | h | h <;> omega)]
      simp only [cond_false]
      exact T y0
    · have hr := q2 h
      rw [decide_eq_true (show (0 : Int) < sgn y 0 by rcases sgn_cases y 0 with h | h | h <;> omega)]
      simp only [cond_true]
      refine bd (cmpz (rs x y) 0 (by omega) (by omega)) ?_
      rw [decide_eq_false (show ¬ sgn (rs x y) 0 < 0 by rcases sgn_cases (rs x y) 0 with h | h | h <;> omega)]
      simp only [cond_false]
      refine bd (CR3 (rs x y) (by omega)) ?_
      rw [decide_eq_false (show ¬ (0 : Int) ≤ sgn (rs x y) y by rcases sgn_cases (rs x y) y with h | h | h <;> omega)]
      simp only [cond_false]
      refine bd C0 ?_
      rw [decide_eq_false (show ¬ sgn y 0 < 0 by rcases sgn_cases y 0 with h | h | h <;> omega)]
      simp only [cond_false]
      exact T y0
end Go.Proofs.YtbjgmnliholmpaaDoor.M
