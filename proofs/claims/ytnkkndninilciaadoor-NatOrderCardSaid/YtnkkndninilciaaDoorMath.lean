/- Digits: what a row of digits stands for, and the one right row of a number (no Go in it). -/
import Derived.Test.YtnkkndninilciaaDoorXWords
namespace Go.Proofs.YtnkkndninilciaaDoor.M
open Go.RowKit Go.Proofs.YtnkkndninilciaaDoorW.PrintWords

/-- What a row of digits to the base b stands for, the lowest first. -/
def V (b : Int) : List Int → Int
  | [] => 0
  | x :: xs => x + b * V b xs
/-- Each is a digit. -/
def Dig (b : Int) (l : List Int) : Prop := ∀ x ∈ l, 0 ≤ x ∧ x < b
/-- The right row of a number. -/
def D (b : Nat) (n : Nat) : List Int :=
  if _h : n = 0 ∨ b < 2 then [] else ((n % b : Nat) : Int) :: D b (n / b)
termination_by n
decreasing_by exact Nat.div_lt_self (by omega) (by omega)

theorem D_zero (b : Nat) : D b 0 = [] := by rw [D]; simp
theorem D_pos {b n : Nat} (hb : 2 ≤ b) (hn : n ≠ 0) : D b n = ((n % b : Nat) : Int) :: D b (n / b) := by
  rw [D, dif_neg (by omega)]
theorem V_append (b : Int) (l r : List Int) : V b (l ++ r) = V b l + b ^ l.length * V b r := by
  induction l with
  | nil => simp [V]
  | cons x l ih => simp only [List.cons_append, V, ih, List.length_cons, Int.pow_succ]; rw [Int.mul_add, Int.add_assoc, ← Int.mul_assoc, Int.mul_comm b (b ^ l.length)]
theorem V_snoc (b : Int) (l : List Int) (x : Int) : V b (l ++ [x]) = V b l + b ^ l.length * x := by
  rw [V_append]; simp [V]
theorem V_nonneg {b : Int} (hb : 0 ≤ b) {l : List Int} (h : ∀ x ∈ l, 0 ≤ x) : 0 ≤ V b l := by
  induction l with
  | nil => simp [V]
  | cons x l ih =>
    have h1 := h x (by simp)
    have h2 := ih (fun y hy => h y (by simp [hy]))
    have h3 := Int.mul_nonneg hb h2
    simp only [V]; omega
theorem Dig.nonneg {b : Int} {l : List Int} (h : Dig b l) : ∀ x ∈ l, 0 ≤ x := fun x hx => (h x hx).1
theorem Dig.cons {b : Int} {x : Int} {l : List Int} : Dig b (x :: l) ↔ (0 ≤ x ∧ x < b) ∧ Dig b l := by
  unfold Dig
  simp
theorem Dig.append {b : Int} {l r : List Int} : Dig b (l ++ r) ↔ Dig b l ∧ Dig b r := by
  unfold Dig
  simp only [List.mem_append]
  exact ⟨fun h => ⟨fun x hx => h x (.inl hx), fun x hx => h x (.inr hx)⟩, fun h x hx => hx.elim (h.1 x) (h.2 x)⟩
theorem Dig.snoc {b : Int} {x : Int} {l : List Int} (h : Dig b l) (h0 : 0 ≤ x) (h1 : x < b) : Dig b (l ++ [x]) :=
  Dig.append.2 ⟨h, fun y hy => by rw [List.mem_singleton] at hy; subst hy; exact ⟨h0, h1⟩⟩
theorem Dig.nil (b : Int) : Dig b [] := fun x hx => absurd hx (by simp)
theorem D_dig {b : Nat} (hb : 2 ≤ b) (n : Nat) : Dig b (D b n) := by
  induction n using Nat.strongRecOn with
  | _ n ih =>
    by_cases hn : n = 0
    · subst hn; rw [D_zero]; exact Dig.nil _
    · rw [D_pos hb hn]
      refine Dig.cons.2 ⟨⟨by omega, ?_⟩, ih _ (Nat.div_lt_self (by omega) (by omega))⟩
      have := Nat.mod_lt n (show 0 < b by omega)
      omega
theorem V_D {b : Nat} (hb : 2 ≤ b) (n : Nat) : V b (D b n) = n := by
  induction n using Nat.strongRecOn with
  | _ n ih =>
    by_cases hn : n = 0
    · subst hn; rw [D_zero]; rfl
    · rw [D_pos hb hn]
      simp only [V]
      rw [ih _ (Nat.div_lt_self (by omega) (by omega))]
      have := Nat.div_add_mod n b
      have h2 : ((b * (n / b) + n % b : Nat) : Int) = n := by rw [this]
      simp only [Int.natCast_add, Int.natCast_mul] at h2
      omega
/-- A row of digits without a nought at its end is the right row of what it stands for. -/
theorem D_of {b : Nat} (hb : 2 ≤ b) {l : List Int} (h : Dig b l) (hl : l.getLast? ≠ some 0) : l = D b (V b l).toNat := by
  induction l with
  | nil => simp [V, D_zero]
  | cons x l ih =>
    obtain ⟨⟨hx0, hx1⟩, hd⟩ := Dig.cons.1 h
    have hv := V_nonneg (b := (b : Int)) (by omega) hd.nonneg
    have hl' : l.getLast? ≠ some 0 := by
      cases l with
      | nil => simp
      | cons y l => rwa [List.getLast?_cons_cons] at hl
    have e := ih hd hl'
    have hbv := Int.mul_nonneg (show (0 : Int) ≤ (b : Int) by omega) hv
    have hne : (V b (x :: l)).toNat ≠ 0 := by
      simp only [V]
      intro h0
      have hx : x = 0 := by omega
      have hz : (b : Int) * V b l = 0 := by omega
      have hvz : V b l = 0 := by
        rcases Int.mul_eq_zero.1 hz with h1 | h1
        · omega
        · exact h1
      rw [hvz] at e
      simp [D_zero] at e
      subst e
      simp [hx] at hl
    rw [D_pos hb hne]
    obtain ⟨v, hv'⟩ : ∃ v : Nat, V b l = v := ⟨(V b l).toNat, by omega⟩
    obtain ⟨y, rfl⟩ : ∃ y : Nat, x = y := ⟨x.toNat, by omega⟩
    have e2 : (V b ((y : Int) :: l)).toNat = y + b * v := by
      simp only [V, hv']
      rw [← Int.natCast_mul, ← Int.natCast_add, Int.toNat_natCast]
    rw [e2, Nat.add_mul_mod_self_left, Nat.add_mul_div_left _ _ (by omega), Nat.mod_eq_of_lt (by omega), Nat.div_eq_of_lt (by omega), Nat.zero_add]
    rw [hv', Int.toNat_natCast] at e
    rw [← e]
theorem D_inj {b : Nat} (hb : 2 ≤ b) {n m : Nat} (h : D b n = D b m) : n = m := by
  have h1 := V_D hb n
  have h2 := V_D hb m
  rw [h] at h1
  omega
theorem V_lt {b : Nat} {l : List Int} (h : Dig b l) : V b l < (b : Int) ^ l.length := by
  induction l with
  | nil => simp [V]
  | cons x l ih =>
    obtain ⟨⟨hx0, hx1⟩, hd⟩ := Dig.cons.1 h
    have := ih hd
    simp only [V, List.length_cons, Int.pow_succ]
    have h2 : (b : Int) * (V b l + 1) ≤ (b : Int) * (b : Int) ^ l.length := Int.mul_le_mul_of_nonneg_left (by omega) (by omega)
    rw [Int.mul_add, Int.mul_one] at h2
    rw [Int.mul_comm ((b : Int) ^ l.length)]
    omega
theorem D_len {b : Nat} (hb : 2 ≤ b) {n k : Nat} : (D b n).length ≤ k ↔ n < b ^ k := by
  induction k generalizing n with
  | zero =>
    by_cases hn : n = 0
    · subst hn; simp [D_zero]
    · rw [D_pos hb hn]; simp; omega
  | succ k ih =>
    by_cases hn : n = 0
    · subst hn
      simp [D_zero]
      exact Nat.pow_pos (by omega)
    · rw [D_pos hb hn, List.length_cons, Nat.add_le_add_iff_right, ih, Nat.div_lt_iff_lt_mul (by omega), Nat.pow_succ]
theorem V_getD {b : Int} (l : List Int) (i : Nat) : V b (l.drop i) = l.getD i 0 + b * V b (l.drop (i + 1)) := by
  by_cases h : i < l.length
  · rw [List.drop_eq_getElem_cons h]
    simp [V, List.getD, h]
  · rw [List.drop_eq_nil_of_le (by omega), List.drop_eq_nil_of_le (by omega)]
    simp [V, List.getD, List.getElem?_eq_none (show l.length ≤ i by omega)]
theorem V_take_succ {b : Int} (l : List Int) (i : Nat) (h : i < l.length) : V b (l.take (i + 1)) = V b (l.take i) + b ^ i * l.getD i 0 := by
  rw [List.take_succ_eq_append_getElem h, V_snoc, List.length_take, Nat.min_eq_left (by omega)]
  simp [List.getD, h]
theorem V_set {b : Int} (l : List Int) (i : Nat) (x : Int) (h : i < l.length) : V b (l.set i x) = V b l + b ^ i * (x - l.getD i 0) := by
  induction l generalizing i with
  | nil => simp at h
  | cons y l ih =>
    cases i with
    | zero => simp [V]; omega
    | succ i =>
      simp only [List.set_cons_succ, V]
      rw [ih i (by simpa using h), Int.pow_succ, Int.mul_add, List.getD_cons_succ, Int.add_assoc, Int.mul_comm (b ^ i) b, Int.mul_assoc]
theorem V_replicate (b : Int) (n : Nat) : V b (List.replicate n 0) = 0 := by
  induction n with
  | zero => rfl
  | succ n ih => rw [List.replicate_succ, V, ih]; simp

-- machine arithmetic
theorem w64 {x : Int} (h0 : -9223372036854775808 ≤ x) (h1 : x < 9223372036854775808) : wrap64 x = x := by unfold wrap64; omega
theorem wu {x : Int} (h0 : 0 ≤ x) (h1 : x < 18446744073709551616) : IntKind.u64.wrap x = x := by rw [IntKind.wrap_u64]; omega
theorem tm {x : Int} (b : Int) (h0 : 0 ≤ x) : Int.tmod x b = x % b := Int.tmod_eq_emod_of_nonneg h0
theorem td {x : Int} (b : Int) (h0 : 0 ≤ x) : Int.tdiv x b = x / b := Int.tdiv_eq_ediv_of_nonneg h0
theorem rd_nat (l : List Int) (i : Nat) : rd l (i : Int) = l.getD i 0 := by unfold rd; simp
theorem getD_mem {l : List Int} {P : Int → Prop} (h : ∀ x ∈ l, P x) (h0 : P 0) (i : Nat) : P (l.getD i 0) := by
  by_cases hi : i < l.length
  · rw [List.getD_eq_getElem?_getD, List.getElem?_eq_getElem hi]; exact h _ (List.getElem_mem hi)
  · rw [List.getD_eq_getElem?_getD, List.getElem?_eq_none (by omega)]; exact h0
theorem V_take_next {b : Int} (l : List Int) (i : Nat) : V b (l.take (i + 1)) = V b (l.take i) + b ^ i * l.getD i 0 := by
  by_cases h : i < l.length
  · exact V_take_succ l i h
  · rw [List.take_of_length_le (by omega), List.take_of_length_le (by omega), List.getD_eq_getElem?_getD, List.getElem?_eq_none (by omega)]; simp
/-- A row of n that is filled up to i. -/
structure Fill (P : Int → Prop) (n i : Nat) (l : List Int) : Prop where
  len : l.length = n
  all : ∀ x ∈ l, P x
  zero : ∀ j, i ≤ j → l.getD j 0 = 0
theorem Fill.start {P : Int → Prop} (h : P 0) (n : Nat) : Fill P n 0 (List.replicate n 0) := by
  refine ⟨by simp, fun x hx => by rw [List.eq_of_mem_replicate hx]; exact h, fun j _ => ?_⟩
  rw [List.getD_eq_getElem?_getD, List.getElem?_replicate]
  split <;> rfl
theorem mem_set {P : Int → Prop} {l : List Int} (h : ∀ x ∈ l, P x) {x : Int} (hx : P x) (i : Nat) : ∀ y ∈ l.set i x, P y := by
  intro y hy
  rcases List.mem_or_eq_of_mem_set hy with h1 | h1
  · exact h y h1
  · rw [h1]; exact hx
theorem getD_set_ne {l : List Int} {i j : Nat} (x : Int) (h : i ≠ j) : (l.set i x).getD j 0 = l.getD j 0 := by
  rw [List.getD_eq_getElem?_getD, List.getD_eq_getElem?_getD, List.getElem?_set_ne h]
theorem getD_set_eq {l : List Int} {i : Nat} (x : Int) (h : i < l.length) : (l.set i x).getD i 0 = x := by
  rw [List.getD_eq_getElem?_getD, List.getElem?_set_self h]; rfl
theorem Fill.set {P : Int → Prop} {n i : Nat} {l : List Int} (h : Fill P n i l) {x : Int} (hx : P x) : Fill P n (i + 1) (l.set i x) :=
  ⟨by rw [List.length_set, h.len], mem_set h.all hx i, fun j hj => by rw [getD_set_ne x (by omega)]; exact h.zero j (by omega)⟩
theorem Fill.val {P : Int → Prop} {n i : Nat} {l : List Int} (h : Fill P n i l) (b x : Int) (hi : i < n) : V b (l.set i x) = V b l + b ^ i * x := by
  rw [V_set l i x (by rw [h.len]; exact hi), h.zero i (Nat.le_refl _), Int.sub_zero]
theorem D_drop {b : Nat} (hb : 2 ≤ b) (n j : Nat) : (D b n).drop j = D b (n / b ^ j) := by
  induction j generalizing n with
  | zero => simp
  | succ j ih =>
    by_cases hn : n = 0
    · subst hn; simp [D_zero]
    · rw [D_pos hb hn, List.drop_succ_cons, ih, Nat.div_div_eq_div_mul, Nat.pow_succ, Nat.mul_comm]
theorem D_take {b : Nat} (hb : 2 ≤ b) (n j : Nat) : V b ((D b n).take j) = ((n % b ^ j : Nat) : Int) := by
  induction j generalizing n with
  | zero => simp [V, Nat.mod_one]
  | succ j ih =>
    by_cases hn : n = 0
    · subst hn; simp [D_zero, V]
    · rw [D_pos hb hn, List.take_succ_cons, V, ih, Nat.pow_succ, Nat.mul_comm (b ^ j), Nat.mod_mul]
      simp
theorem D_len_add {b : Nat} (hb : 2 ≤ b) (n m : Nat) : (D b (n + m)).length ≤ (D b n).length + (D b m).length + 1 := by
  rw [D_len hb]
  have h1 := (D_len hb (n := n)).1 (Nat.le_refl _)
  have h2 := (D_len hb (n := m)).1 (Nat.le_refl _)
  generalize (D b n).length = p at *
  generalize (D b m).length = q at *
  have e1 : b ^ p ≤ b ^ (p + q) := Nat.pow_le_pow_right (by omega) (by omega)
  have e2 : b ^ q ≤ b ^ (p + q) := Nat.pow_le_pow_right (by omega) (by omega)
  rw [Nat.pow_succ]
  have e3 : b ^ (p + q) * 2 ≤ b ^ (p + q) * b := Nat.mul_le_mul_left _ hb
  omega
theorem D_len_mul {b : Nat} (hb : 2 ≤ b) (n m : Nat) : (D b (n * m)).length ≤ (D b n).length + (D b m).length := by
  rw [D_len hb, Nat.pow_add]
  exact Nat.mul_lt_mul'' ((D_len hb).1 (Nat.le_refl _)) ((D_len hb).1 (Nat.le_refl _))
theorem D_len_mono {b : Nat} (hb : 2 ≤ b) {n m : Nat} (h : n ≤ m) : (D b n).length ≤ (D b m).length := by
  rw [D_len hb]
  exact Nat.lt_of_le_of_lt h ((D_len hb).1 (Nat.le_refl _))
/-- A row whose entries are below b² is not much longer than its right row. -/
theorem V_len' {b : Nat} {l : List Int} (h : ∀ x ∈ l, 0 ≤ x ∧ x ≤ (b : Int) * b - b) : V b l ≤ (b : Int) ^ (l.length + 1) - b := by
  induction l with
  | nil => simp [V, Int.pow_succ]
  | cons x l ih =>
    have h1 := ih (fun y hy => h y (by simp [hy]))
    have h2 := h x (by simp)
    simp only [V, List.length_cons]
    have h3 : (b : Int) * V b l ≤ (b : Int) * ((b : Int) ^ (l.length + 1) - b) := Int.mul_le_mul_of_nonneg_left h1 (by omega)
    rw [Int.mul_sub] at h3
    rw [Int.pow_succ, Int.mul_comm ((b : Int) ^ (l.length + 1))]
    omega
theorem D_len_V {b : Nat} (hb : 2 ≤ b) {l : List Int} (h : ∀ x ∈ l, 0 ≤ x ∧ x ≤ (b : Int) * b - b) : (D b (V b l).toNat).length ≤ l.length + 1 := by
  rw [D_len hb]
  have h1 := V_len' h
  have h2 := V_nonneg (b := (b : Int)) (by omega) (fun x hx => (h x hx).1)
  have h3 : ((b ^ (l.length + 1) : Nat) : Int) = (b : Int) ^ (l.length + 1) := by simp
  omega
end Go.Proofs.YtnkkndninilciaaDoor.M
