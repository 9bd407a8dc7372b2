/- What the functions of package nat compute, in plain Lean over their printed forms: of, row, plus, less, compare. -/
import Derived.Test.YtnkkndninilciaaDoorNat1
namespace Go.Proofs.YtnkkndninilciaaDoor.M
open Go.RowKit Go.Proofs.YtnkkndninilciaaDoor.X Go.Proofs.YtnkkndninilciaaDoorW.PrintWords Go.Proofs.YtnkkndninilciaaDoorW.PrintLast Go.Proofs.YtnkkndninilciaaDoorW.PrintMore

/-- Each is a uint32. -/
abbrev U32 (l : List Int) : Prop := ∀ x ∈ l, 0 ≤ x ∧ x < 4294967296
theorem of_l0 (l : List Int) (hl : U32 l) (hn : l.length ≤ 1000000) (m : Nat) : ∀ (i : Nat) (a : List Int), i + m = l.length →
    Fill (fun x => 0 ≤ x ∧ x < 4294967296) l.length i a → V B a = V B (l.take i) →
    Ev (fun k => nat_of.l0 k a l (l.length : Int) (i : Int)) (D9 (V B l).toNat) := by
  induction m with
  | zero =>
    intro i a hi hf hv
    refine Ev.step (f := fun k => (nat_carried.f k a).bind fun t => some t) (fun k => ?_) ?_
    · simp only [nat_of.l0]
      rw [if_neg (by omega)]
    · rw [List.take_of_length_le (by omega)] at hv
      rw [← hv]
      refine Ev.bind (carried_f a (fun x hx => ?_) (by rw [hf.len]; omega)) (Ev.now _)
      have := hf.all x hx
      omega
  | succ m ih =>
    intro i a hi hf hv
    have hx := getD_mem (P := fun x => 0 ≤ x ∧ x < 4294967296) hl (by omega) i
    have ha := hf.len
    refine Ev.step (f := fun k => nat_of.l0 k (a.set i (l.getD i 0)) l (l.length : Int) ((i + 1 : Nat) : Int)) (fun k => ?_) (ih (i + 1) _ (by omega) (hf.set hx) ?_)
    · simp only [nat_of.l0]
      rw [if_pos (by omega), if_pos (by omega), if_pos (by omega), if_pos (by omega), rd_nat, wu (by omega) (by omega), w64 (by omega) (by omega)]
      rfl
    · rw [hf.val B _ (by omega), hv, V_take_next]
theorem of_f (l : List Int) (hl : U32 l) (hn : l.length ≤ 1000000) : Ev (fun k => nat_of.f k l) (D9 (V B l).toNat) := by
  refine Ev.congr (fun k => ?_) (of_l0 l hl hn l.length 0 _ (by omega) (Fill.start (by omega) _) (by rw [V_replicate]; rfl))
  unfold nat_of.f
  rw [if_pos (by omega), if_pos (by omega)]
  rfl

theorem D9_dig (n : Nat) : Dig B (D9 n) := D_dig B2 n
theorem D9_V (n : Nat) : V B (D9 n) = n := V_D B2 n
theorem Dig9 {l : List Int} (h : Dig B l) : ∀ x ∈ l, 0 ≤ x ∧ x < 1000000000 := h
theorem D9_lt (n : Nat) : ∀ x ∈ D9 n, 0 ≤ x ∧ x < 1000000000 := D9_dig n
theorem D9_at (n i : Nat) : 0 ≤ (D9 n).getD i 0 ∧ (D9 n).getD i 0 < 1000000000 := getD_mem (P := fun x => 0 ≤ x ∧ x < 1000000000) (D9_lt n) (by omega) i
theorem row_l0 (l : List Int) (hl : Dig B l) (hn : l.length ≤ 1000000) (m : Nat) : ∀ (i : Nat), i + m = l.length →
    Ev (fun k => nat_number_row.l0 k (l.take i) l (l.length : Int) (i : Int)) l := by
  induction m with
  | zero =>
    intro i hi
    refine Ev.step (f := fun _ => some l) (fun k => ?_) (Ev.now _)
    simp only [nat_number_row.l0]
    rw [if_neg (by omega), List.take_of_length_le (by omega)]
  | succ m ih =>
    intro i hi
    refine Ev.step (f := fun k => nat_number_row.l0 k (l.take (i + 1)) l (l.length : Int) ((i + 1 : Nat) : Int)) (fun k => ?_) (ih (i + 1) (by omega))
    have hx := getD_mem (P := fun x => 0 ≤ x ∧ x < 1000000000) (Dig9 hl) (by omega) i
    simp only [nat_number_row.l0]
    rw [if_pos (by omega), if_pos (by omega), if_pos (by omega), if_pos (by simp; omega), rd_nat, w64 (by omega) (by omega), Int.emod_eq_of_lt (by omega) (by omega), List.take_succ_eq_append_getElem (by omega)]
    congr 2
    simp [List.getD, show i < l.length by omega]
theorem row_f (n : Nat) (hn : (D9 n).length ≤ 1000000) : Ev (fun k => nat_number_row.f k (D9 n)) (D9 n) :=
  Ev.congr (fun k => rfl) (row_l0 (D9 n) (D9_dig n) hn (D9 n).length 0 (by omega))

theorem plus_l0 (n m : Nat) (L : Nat) (hL1 : (D9 n).length ≤ L) (hL2 : (D9 m).length ≤ L) (hL : L ≤ 1000000) (q : Nat) : ∀ (i : Nat) (a : List Int), i + q = L →
    Fill (fun x => 0 ≤ x ∧ x < 4294967296) L i a → V B a = V B ((D9 n).take i) + V B ((D9 m).take i) →
    Ev (fun k => nat_number_plus.l0 k a (L : Int) (i : Int) (D9 n) (D9 m)) (D9 (n + m)) := by
  induction q with
  | zero =>
    intro i a hi hf hv
    refine Ev.step (f := fun k => (nat_carried.f k a).bind fun t => some t) (fun k => ?_) ?_
    · simp only [nat_number_plus.l0]
      rw [if_neg (by omega)]
    · rw [List.take_of_length_le (by omega), List.take_of_length_le (by omega), D9_V, D9_V] at hv
      have e : (V B a).toNat = n + m := by rw [hv]; omega
      rw [← e]
      refine Ev.bind (carried_f a (fun x hx => ?_) (by rw [hf.len]; omega)) (Ev.now _)
      have := hf.all x hx
      omega
  | succ q ih =>
    intro i a hi hf hv
    have hx := D9_at n i
    have hy := D9_at m i
    have ha := hf.len
    refine Ev.step (f := fun k => nat_number_plus.l0 k (a.set i ((D9 n).getD i 0 + (D9 m).getD i 0)) (L : Int) ((i + 1 : Nat) : Int) (D9 n) (D9 m)) (fun k => ?_) (ih (i + 1) _ (by omega) (hf.set ⟨by omega, by omega⟩) ?_)
    · simp only [nat_number_plus.l0]
      rw [if_pos (by omega), at_f, at_f]
      simp only [Option.bind_some]
      rw [if_pos (by omega), if_pos (by omega), wu (by omega) (by omega), w64 (by omega) (by omega)]
      rfl
    · rw [hf.val B _ (by omega), hv, V_take_next, V_take_next, Int.mul_add]
      omega
theorem plus_f (n m : Nat) (h1 : (D9 n).length ≤ 1000000) (h2 : (D9 m).length ≤ 1000000) : Ev (fun k => nat_number_plus.f k (D9 n) (D9 m)) (D9 (n + m)) := by
  by_cases h : (D9 n).length < (D9 m).length
  · refine Ev.congr (fun k => ?_) (plus_l0 n m (D9 m).length (by omega) (by omega) h2 (D9 m).length 0 _ (by omega) (Fill.start (by omega) _) (by rw [V_replicate]; simp [V]))
    unfold nat_number_plus.f
    rw [if_pos (by omega), if_pos (by omega), if_pos (by omega)]
    simp only [Option.bind_some, List.length_replicate, Int.toNat_natCast]
    rfl
  · refine Ev.congr (fun k => ?_) (plus_l0 n m (D9 n).length (by omega) (by omega) h1 (D9 n).length 0 _ (by omega) (Fill.start (by omega) _) (by rw [V_replicate]; simp [V]))
    unfold nat_number_plus.f
    rw [if_neg (by omega), if_pos (by omega), if_pos (by omega)]
    simp only [Option.bind_some, List.length_replicate, Int.toNat_natCast]
    rfl

theorem less_l0 (n m : Nat) (hnm : m ≤ n) (h1 : (D9 n).length ≤ 1000000) (q : Nat) : ∀ (i : Nat) (a : List Int) (c : Int), i + q = (D9 n).length → (0 ≤ c ∧ c ≤ 1) →
    Fill (fun x => 0 ≤ x ∧ x < 1000000000) (D9 n).length i a → V B a = V B ((D9 n).take i) - V B ((D9 m).take i) + (B : Int) ^ i * c →
    Ev (fun k => nat_number_less.l0 k a c ((D9 n).length : Int) (i : Int) (D9 n) (D9 m)) (D9 (n - m)) := by
  induction q with
  | zero =>
    intro i a c hi hc hf hv
    refine Ev.step (f := fun k => (nat_carried.f k a).bind fun t => some t) (fun k => ?_) ?_
    · simp only [nat_number_less.l0]
      rw [if_neg (by omega)]
    · have hml : (D9 m).length ≤ (D9 n).length := D_len_mono B2 hnm
      rw [List.take_of_length_le (by omega), List.take_of_length_le (by omega), D9_V, D9_V] at hv
      have hlt := V_lt (b := B) (l := a) hf.all
      rw [hf.len, show (D9 n).length = i by omega] at hlt
      have hc0 : c = 0 := by
        rcases (show c = 0 ∨ c = 1 by omega) with h | h
        · exact h
        · rw [h, Int.mul_one] at hv
          generalize (B : Int) ^ i = w at *
          omega
      rw [hc0, Int.mul_zero] at hv
      have e : (V B a).toNat = n - m := by rw [hv]; omega
      rw [← e]
      refine Ev.bind (carried_f a (fun x hx => ?_) (by rw [hf.len]; omega)) (Ev.now _)
      have := hf.all x hx
      omega
  | succ q ih =>
    intro i a c hi hc hf hv
    have hx := D9_at n i
    have hy := D9_at m i
    have ha := hf.len
    obtain ⟨s, hs⟩ : ∃ s, s = (D9 n).getD i 0 + 1000000000 - (D9 m).getD i 0 - c := ⟨_, rfl⟩
    refine Ev.step (f := fun k => nat_number_less.l0 k (a.set i (s % 1000000000)) (1 - s / 1000000000) ((D9 n).length : Int) ((i + 1 : Nat) : Int) (D9 n) (D9 m)) (fun k => ?_) (ih (i + 1) _ _ (by omega) (by omega) (hf.set ⟨by omega, by omega⟩) ?_)
    · simp only [nat_number_less.l0]
      rw [if_pos (by omega), at_f, at_f]
      simp only [Option.bind_some]
      rw [if_pos (by omega), if_pos (by omega), wu (x := _ + _) (by omega) (by omega), wu (x := (D9 n).getD i 0 + 1000000000 - (D9 m).getD i 0) (by omega) (by omega), wu (x := (D9 n).getD i 0 + 1000000000 - (D9 m).getD i 0 - c) (by omega) (by omega), ← hs, tm _ (by omega), td _ (by omega), wu (x := s / _) (by omega) (by omega), wu (by omega) (by omega), w64 (by omega) (by omega)]
      rfl
    · rw [hf.val B _ (by omega), hv, V_take_next, V_take_next, Int.pow_succ, Int.mul_assoc]
      have e : (D9 n).getD i 0 - (D9 m).getD i 0 + (B : Int) * (1 - s / 1000000000) = c + s % 1000000000 := by
        show _ + 1000000000 * _ = _
        omega
      generalize V B ((D9 n).take i) = p at *
      generalize V B ((D9 m).take i) = q at *
      generalize (B : Int) ^ i = w at *
      have e2 : w * ((D9 n).getD i 0 - (D9 m).getD i 0 + (B : Int) * (1 - s / 1000000000)) = w * (c + s % 1000000000) := by rw [e]
      rw [Int.mul_add, Int.mul_sub, Int.mul_add] at e2
      omega
theorem less_f (n m : Nat) (hnm : m ≤ n) (h1 : (D9 n).length ≤ 1000000) : Ev (fun k => nat_number_less.f k (D9 n) (D9 m)) (D9 (n - m)) := by
  refine Ev.congr (fun k => ?_) (less_l0 n m hnm h1 (D9 n).length 0 _ 0 (by omega) (by omega) (Fill.start (by omega) _) (by rw [V_replicate]; simp [V]))
  unfold nat_number_less.f
  rw [if_pos (by omega), if_pos (by omega)]
  simp only [Option.bind_some, List.length_replicate, Int.toNat_natCast]
  rfl

/-- Less, equal, more. -/
def sgn (x y : Int) : Int := if x < y then -1 else if y < x then 1 else 0
theorem sgn_le {x y : Int} : sgn x y ≤ 0 ↔ x ≤ y := by
  unfold sgn
  split
  · omega
  · split <;> omega
theorem sgn_lt {x y : Int} : sgn x y < 0 ↔ x < y := by
  unfold sgn
  split
  · omega
  · split <;> omega
theorem cmpI_f (x y : Int) : cmp_Compare_int.f x y = some (sgn x y) := by
  unfold cmp_Compare_int.f cmp_isNaN_int.f sgn
  simp
  split
  · rfl
  · split <;> rfl
theorem cmpU_f (x y : Int) : cmp_Compare_uint64.f x y = some (sgn x y) := by
  unfold cmp_Compare_uint64.f cmp_isNaN_uint64.f sgn
  simp
  split
  · rfl
  · split <;> rfl
theorem compare_out (s i : Int) (a b : List Int) (h : i < 0 ∨ s ≠ 0) : Ev (fun k => nat_number_compare.l0 k s i a b) s := by
  refine Ev.step (f := fun k => nat_number_compare.j1 k s i false a b) (fun k => ?_) (Ev.step (f := fun _ => some s) (fun k => ?_) (Ev.now _))
  · simp only [nat_number_compare.l0]
    by_cases hi : i ≥ 0
    · rw [if_pos hi, show (s == 0) = false from by simp; omega]
    · rw [if_neg hi]
  · simp only [nat_number_compare.j1]
    rw [if_neg (by simp)]
theorem compare_l0 (n m : Nat) : ∀ (i : Nat), i ≤ 1000000 → Ev (fun k => nat_number_compare.l0 k 0 ((i : Int) - 1) (D9 n) (D9 m)) (sgn (V B ((D9 n).take i)) (V B ((D9 m).take i))) := by
  intro i
  induction i with
  | zero => intro _; exact compare_out 0 _ _ _ (by omega)
  | succ i ih =>
    intro hi
    refine Ev.step (f := fun k => nat_number_compare.j1 k 0 (((i + 1 : Nat) : Int) - 1) true (D9 n) (D9 m)) (fun k => ?_) ?_
    · simp only [nat_number_compare.l0]
      rw [if_pos (by omega)]
      rfl
    refine Ev.step (f := fun k => nat_number_compare.l0 k (sgn ((D9 n).getD i 0) ((D9 m).getD i 0)) ((i : Int) - 1) (D9 n) (D9 m)) (fun k => ?_) ?_
    · simp only [nat_number_compare.j1]
      rw [if_pos trivial, show ((i + 1 : Nat) : Int) - 1 = (i : Int) by omega, at_f, at_f]
      simp only [Option.bind_some]
      rw [cmpU_f, w64 (by omega) (by omega)]
      rfl
    rw [V_take_next, V_take_next]
    have h1 : V B ((D9 n).take i) < (B : Int) ^ i := by rw [D_take B2]; exact_mod_cast Nat.mod_lt n (Nat.pow_pos (by decide))
    have h2 : V B ((D9 m).take i) < (B : Int) ^ i := by rw [D_take B2]; exact_mod_cast Nat.mod_lt m (Nat.pow_pos (by decide))
    have h3 : 0 ≤ V B ((D9 n).take i) := by rw [D_take B2]; exact Int.natCast_nonneg _
    have h4 : 0 ≤ V B ((D9 m).take i) := by rw [D_take B2]; exact Int.natCast_nonneg _
    generalize (D9 n).getD i 0 = x
    generalize (D9 m).getD i 0 = y
    have ih' := ih (by omega)
    generalize V B ((D9 n).take i) = p at *
    generalize V B ((D9 m).take i) = q at *
    generalize (B : Int) ^ i = w at *
    rcases Int.lt_trichotomy x y with h | h | h
    · have hm : w * (x + 1) ≤ w * y := Int.mul_le_mul_of_nonneg_left (by omega) (by omega)
      rw [Int.mul_add, Int.mul_one] at hm
      rw [show sgn (p + w * x) (q + w * y) = -1 from by unfold sgn; rw [if_pos (by omega)], show sgn x y = -1 from by unfold sgn; rw [if_pos (by omega)]]
      exact compare_out _ _ _ _ (by omega)
    · subst h
      rw [show sgn (p + w * x) (q + w * x) = sgn p q from by unfold sgn; split <;> split <;> first | rfl | omega | (split <;> first | rfl | omega | (split <;> first | rfl | omega)), show sgn x x = 0 from by unfold sgn; simp]
      exact ih'
    · have hm : w * (y + 1) ≤ w * x := Int.mul_le_mul_of_nonneg_left (by omega) (by omega)
      rw [Int.mul_add, Int.mul_one] at hm
      rw [show sgn (p + w * x) (q + w * y) = 1 from by unfold sgn; rw [if_neg (by omega), if_pos (by omega)], show sgn x y = 1 from by unfold sgn; rw [if_neg (by omega), if_pos (by omega)]]
      exact compare_out _ _ _ _ (by omega)
theorem compare_f (n m : Nat) (h1 : (D9 n).length ≤ 1000000) : Ev (fun k => nat_number_compare.f k (D9 n) (D9 m)) (sgn n m) := by
  have hu : ∀ k, nat_number_compare.f k (D9 n) (D9 m) = nat_number_compare.l0 k (sgn ((D9 n).length : Int) ((D9 m).length : Int)) (((D9 n).length : Int) - 1) (D9 n) (D9 m) := by
    intro k
    unfold nat_number_compare.f
    rw [cmpI_f, w64 (by omega) (by omega)]
    rfl
  refine Ev.congr hu ?_
  rcases Nat.lt_trichotomy (D9 n).length (D9 m).length with h | h | h
  · have hlt : n < m := by
      rcases Nat.lt_or_ge n m with h' | h'
      · exact h'
      · have : (D9 m).length ≤ (D9 n).length := D_len_mono B2 h'
        omega
    rw [show sgn (n : Int) m = -1 from by unfold sgn; rw [if_pos (by omega)], show sgn ((D9 n).length : Int) ((D9 m).length : Int) = -1 from by unfold sgn; rw [if_pos (by omega)]]
    exact compare_out _ _ _ _ (by omega)
  · have := compare_l0 n m (D9 n).length h1
    rw [List.take_of_length_le (by omega), List.take_of_length_le (by omega), D9_V, D9_V] at this
    rw [show sgn ((D9 n).length : Int) ((D9 m).length : Int) = 0 from by unfold sgn; rw [if_neg (by omega), if_neg (by omega)]]
    exact this
  · have hlt : m < n := by
      rcases Nat.lt_or_ge m n with h' | h'
      · exact h'
      · have : (D9 n).length ≤ (D9 m).length := D_len_mono B2 h'
        omega
    rw [show sgn (n : Int) m = 1 from by unfold sgn; rw [if_neg (by omega), if_pos (by omega)], show sgn ((D9 n).length : Int) ((D9 m).length : Int) = 1 from by unfold sgn; rw [if_neg (by omega), if_pos (by omega)]]
    exact compare_out _ _ _ _ (by omega)
end Go.Proofs.YtnkkndninilciaaDoor.M
