/- What Text computes: the decimal digits of the number that a row stands for; and that Of reads them back. -/
import Derived.Test.YtnkkndninilciaaDoorOf
import Derived.Test.YtnkkndninilciaaDoorX7
namespace Go.Proofs.YtnkkndninilciaaDoor.M
open Go.RowKit Go.Proofs.YtnkkndninilciaaDoor.X Go.Proofs.YtnkkndninilciaaDoorW.PrintWords Go.Proofs.YtnkkndninilciaaDoorW.PrintLast Go.Proofs.YtnkkndninilciaaDoorW.PrintMore
open Lib (decDigits)

theorem dd_small {n : Nat} (h : n < 10) : decDigits n = [UInt8.ofNat (48 + n)] := by rw [decDigits, dif_pos h]
theorem dd_big {n : Nat} (h : ¬ n < 10) : decDigits n = decDigits (n / 10) ++ [UInt8.ofNat (48 + n % 10)] := by rw [decDigits, dif_neg h]
theorem dig_of {d : Nat} (h : d < 10) : (UInt8.ofNat (48 + d)).toNat = 48 + d := by
  rw [UInt8.toNat_ofNat', Nat.mod_eq_of_lt (by omega)]
theorem dd_dig (n : Nat) : ∀ c ∈ decDigits n, isDig c := by
  induction n using Nat.strongRecOn with
  | _ n ih =>
    by_cases h : n < 10
    · rw [dd_small h]
      intro c hc
      rw [List.mem_singleton] at hc
      subst hc
      unfold isDig
      rw [dig_of h]
      omega
    · rw [dd_big h]
      intro c hc
      rcases List.mem_append.1 hc with h1 | h1
      · exact ih (n / 10) (by omega) c h1
      · rw [List.mem_singleton] at h1
        subst h1
        unfold isDig
        rw [dig_of (by omega)]
        omega
theorem dd_dv (n : Nat) : dv (decDigits n) = n := by
  induction n using Nat.strongRecOn with
  | _ n ih =>
    by_cases h : n < 10
    · rw [dd_small h, dv_one, dig_of h]; omega
    · rw [dd_big h, dv_append, ih (n / 10) (by omega), dv_one, dig_of (by omega)]
      simp
      omega
theorem dd_ne (n : Nat) : decDigits n ≠ [] := by
  by_cases h : n < 10
  · rw [dd_small h]; simp
  · rw [dd_big h]; simp
theorem dd_len {n k : Nat} (h : n < 10 ^ (k + 1)) : (decDigits n).length ≤ k + 1 := by
  induction k generalizing n with
  | zero => rw [dd_small (by simpa using h)]; simp
  | succ k ih =>
    by_cases h1 : n < 10
    · rw [dd_small h1]; simp
    · rw [dd_big h1, List.length_append, List.length_singleton]
      have := ih (n := n / 10) (by rw [Nat.pow_succ] at h; omega)
      omega
/-- A number's first digit is no nought, but nought's. -/
theorem dd_head (n : Nat) (h : n ≠ 0) : ∃ c r, decDigits n = c :: r ∧ c.toNat ≠ 48 := by
  induction n using Nat.strongRecOn with
  | _ n ih =>
    by_cases h1 : n < 10
    · exact ⟨_, [], dd_small h1, by rw [dig_of h1]; omega⟩
    · obtain ⟨c, r, e, hc⟩ := ih (n / 10) (by omega) (by omega)
      exact ⟨c, r ++ [UInt8.ofNat (48 + n % 10)], by rw [dd_big h1, e]; rfl, hc⟩

theorem repeatL_eq (c : UInt8) (m : Nat) : Lib.repeatL [c] m = List.replicate m c := by
  induction m with
  | zero => rfl
  | succ m ih => rw [Lib.repeatL, ih, List.replicate_succ]; rfl
/-- The last k digits of a number. -/
def padk : Nat → Nat → List UInt8
  | 0, _ => []
  | k + 1, b => padk k (b / 10) ++ [UInt8.ofNat (48 + b % 10)]
theorem padk_zero (k : Nat) : padk k 0 = List.replicate k 48 := by
  induction k with
  | zero => rfl
  | succ k ih => rw [padk, Nat.zero_div, ih, List.replicate_succ']; rfl
theorem padk_eq (k b : Nat) (h : b < 10 ^ (k + 1)) : padk (k + 1) b = List.replicate (k + 1 - (decDigits b).length) 48 ++ decDigits b := by
  induction k generalizing b with
  | zero =>
    have hb : b < 10 := by simpa using h
    rw [padk, padk, dd_small hb, Nat.mod_eq_of_lt hb]; simp
  | succ k ih =>
    rw [padk]
    by_cases hb : b < 10
    · rw [Nat.div_eq_of_lt hb, padk_zero, dd_small hb, Nat.mod_eq_of_lt hb]; simp
    · rw [ih (b / 10) (by rw [Nat.pow_succ] at h; omega), dd_big hb, List.length_append, List.length_singleton, ← List.append_assoc]
      congr 2
      congr 1
      omega
theorem dd_split (k : Nat) : ∀ a b : Nat, a ≠ 0 → b < 10 ^ k → decDigits (a * 10 ^ k + b) = decDigits a ++ padk k b := by
  induction k with
  | zero =>
    intro a b _ hb
    obtain rfl : b = 0 := by simpa using hb
    simp [padk]
  | succ k ih =>
    intro a b ha hb
    rw [Nat.pow_succ] at hb ⊢
    have hp : 1 ≤ 10 ^ k := Nat.pow_pos (by omega)
    have hm : 1 * (1 * 10) ≤ a * (10 ^ k * 10) := Nat.mul_le_mul (by omega) (Nat.mul_le_mul_right _ hp)
    have hm2 : a * (10 ^ k * 10) = a * 10 ^ k * 10 := (Nat.mul_assoc _ _ _).symm
    rw [hm2] at hm ⊢
    rw [dd_big (by omega), show (a * 10 ^ k * 10 + b) / 10 = a * 10 ^ k + b / 10 by omega, show (a * 10 ^ k * 10 + b) % 10 = b % 10 by omega, ih a (b / 10) ha (by omega), padk, List.append_assoc]
theorem txtPad_eq (d : Nat) (h : d < 1000000000) : nat_txtPad (d : Int) = padk 9 d := by
  unfold nat_txtPad
  rw [Int.toNat_natCast, repeatL_eq, padk_eq 8 d (by omega)]
theorem D9_1' {x : Nat} (h0 : x ≠ 0) (h1 : x < B) : D9 x = [(x : Int)] := by
  show D B x = _
  rw [D_pos B2 h0, Nat.mod_eq_of_lt h1, Nat.div_eq_of_lt h1, D_zero]
theorem txt_low (n : Nat) : ∀ j : Nat, n / B ^ j ≠ 0 → decDigits (n / B ^ j) ++ nat_txtLow (D9 n) j = decDigits n := by
  intro j
  induction j with
  | zero => intro _; simp [nat_txtLow]
  | succ j ih =>
    intro h
    have hd : n / B ^ (j + 1) = n / B ^ j / B := by rw [Nat.pow_succ, Nat.div_div_eq_div_mul]
    have h0 : n / B ^ j ≠ 0 := by
      intro h0
      rw [hd, h0] at h
      exact h (Nat.zero_div _)
    have hg : (D9 n).getD j 0 = ((n / B ^ j % B : Nat) : Int) := by
      have e : (D9 n).drop j = D9 (n / B ^ j) := D_drop B2 n j
      have e2 : D9 (n / B ^ j) = ((n / B ^ j % B : Nat) : Int) :: D9 (n / B ^ j / B) := D_pos B2 h0
      rw [e2] at e
      have : (D9 n)[j]? = some ((n / B ^ j % B : Nat) : Int) := by
        have h1 : ((D9 n).drop j)[0]? = (D9 n)[j + 0]? := List.getElem?_drop
        rw [e] at h1
        exact h1.symm
      rw [List.getD_eq_getElem?_getD, this]; rfl
    have hm : n / B ^ j % B < 1000000000 := Nat.mod_lt _ (by decide)
    rw [nat_txtLow, hg, txtPad_eq _ hm, ← List.append_assoc, hd, ← dd_split 9 _ _ (by rw [← hd]; exact h) hm]
    have e3 : n / B ^ j / B * 10 ^ 9 + n / B ^ j % B = n / B ^ j := by
      have := Nat.div_add_mod (n / B ^ j) B
      rw [Nat.mul_comm] at this
      exact this
    rw [e3]
    exact ih h0
theorem txt_eq (n : Nat) : nat_txt (D9 n) = decDigits n := by
  by_cases h : n = 0
  · subst h
    rw [show D9 0 = [] from D_zero B]
    simp [nat_txt, nat_txtLow]
  · have hl : 0 < (D9 n).length := by
      rcases Nat.eq_zero_or_pos (D9 n).length with h1 | h1
      · exact absurd (D9_nil.1 h1) h
      · exact h1
    obtain ⟨j, hj⟩ : ∃ j, (D9 n).length = j + 1 := ⟨(D9 n).length - 1, by omega⟩
    have h1 : n < B ^ (j + 1) := (D_len B2).1 (by show (D9 n).length ≤ j + 1; omega)
    have h2 : ¬ n < B ^ j := fun h2 => by have : (D9 n).length ≤ j := (D_len B2).2 h2; omega
    have h0 : n / B ^ j ≠ 0 := fun h3 => h2 ((Nat.div_eq_zero_iff_lt (Nat.pow_pos (by decide))).1 h3)
    have hlt : n / B ^ j < B := (Nat.div_lt_iff_lt_mul (Nat.pow_pos (by decide))).2 (by rw [Nat.mul_comm, ← Nat.pow_succ]; exact h1)
    have hg : (D9 n).getD j 0 = ((n / B ^ j : Nat) : Int) := by
      have e : (D9 n).drop j = D9 (n / B ^ j) := D_drop B2 n j
      have e2 : D9 (n / B ^ j) = [((n / B ^ j : Nat) : Int)] := D9_1' h0 hlt
      rw [e2] at e
      have h4 : ((D9 n).drop j)[0]? = (D9 n)[j + 0]? := List.getElem?_drop
      rw [e] at h4
      have : (D9 n)[j]? = some ((n / B ^ j : Nat) : Int) := h4.symm
      rw [List.getD_eq_getElem?_getD, this]; rfl
    rw [nat_txt, hj, Nat.add_sub_cancel, hg, Int.toNat_natCast]
    exact txt_low n j h0
/-- The bytes that Text answers. -/
def txt (n : Nat) : ByteArray := ⟨(decDigits n).toArray⟩
theorem txt_list (n : Nat) : (txt n).data.toList = decDigits n := by simp [txt]
theorem dd_len9 (n N : Nat) (h : (D9 n).length ≤ N) : (decDigits n).length ≤ 9 * N + 1 := by
  have h1 : n < B ^ N := (D_len B2).1 h
  have h2 : n < 10 ^ (9 * N) := by rw [Nat.pow_mul]; exact h1
  exact dd_len (Nat.lt_of_lt_of_le h2 (Nat.pow_le_pow_right (by omega) (by omega)))
theorem Text_f (l : List Int) (h : Row 10000 l) : Ev (fun k => nat_Text.f k l) (txt (val l)) := by
  have h1 := h.len
  have h2 := dd_len9 (val l) 10001 h1
  unfold nat_Text.f
  refine Ev.bind (h.of (by omega)) (Ev.congr (fun k => ?_) (Ev.now _))
  rw [if_pos (by rw [List.all_eq_true]; intro d hd; exact decide_eq_true (D9_lt _ d hd)), if_pos (by omega), txt_eq, if_pos (by omega)]
  rfl
theorem txt_size (n : Nat) : (txt n).size = (decDigits n).length := by rw [Lib.size_eq, txt_list]
theorem okNum_of (s : ByteArray) (h : ∀ c ∈ s.data.toList, isDig c) (c : UInt8) (r : List UInt8) (e : s.data.toList = c :: r) (hc : c.toNat ≠ 48 ∨ r = []) : okNum s = true := by
  have hz := Lib.size_eq s
  rw [e, List.length_cons] at hz
  have hb := bt_eq s 0 (by omega)
  simp only [e, List.getElem_cons_zero] at hb
  unfold okNum
  rw [allDig_iff.2 h]
  rcases hc with hc | hc
  · have : decide (bt s 0 = 48) = false := decide_eq_false (fun h => by
      have h' : bt s ((0 : Nat) : Int) = 48 := h
      rw [hb] at h'; omega)
    have h0 : decide (s.size ≠ 0) = true := decide_eq_true (by omega)
    rw [h0, this]
    simp
  · rw [hc] at hz
    have : decide (1 < s.size) = false := decide_eq_false (by simp at hz; omega)
    have h0 : decide (s.size ≠ 0) = true := decide_eq_true (by omega)
    rw [h0, this]
    simp
theorem okNum_txt (n : Nat) : okNum (txt n) = true := by
  by_cases h : n = 0
  · subst h
    exact okNum_of _ (by rw [txt_list]; exact dd_dig 0) 48 [] (by rw [txt_list, dd_small (by omega)]; rfl) (.inr rfl)
  · obtain ⟨c, r, e, hc⟩ := dd_head n h
    exact okNum_of _ (by rw [txt_list]; exact dd_dig n) c r (by rw [txt_list, e]) (.inl hc)
theorem Of_txt (n : Nat) (h : (decDigits n).length ≤ 90000) : Ev (fun k => nat_Of.f k (txt n)) (D9 n, true) := by
  have := Of_f (txt n) (by rw [txt_size]; exact h)
  rw [if_pos (okNum_txt n), txt_list, dd_dv] at this
  exact this
end Go.Proofs.YtnkkndninilciaaDoor.M
