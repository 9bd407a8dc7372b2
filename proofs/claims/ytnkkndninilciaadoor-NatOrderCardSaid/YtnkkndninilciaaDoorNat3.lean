/- What the functions of package nat compute, in plain Lean over their printed forms: times, scaled, digit, parted. -/
import Derived.Test.YtnkkndninilciaaDoorNat2
import Derived.Test.YtnkkndninilciaaDoorX4
import Derived.Test.YtnkkndninilciaaDoorX5
import Derived.Test.YtnkkndninilciaaDoorX6
namespace Go.Proofs.YtnkkndninilciaaDoor.M
open Go.RowKit Go.Proofs.YtnkkndninilciaaDoor.X Go.Proofs.YtnkkndninilciaaDoorW.PrintWords Go.Proofs.YtnkkndninilciaaDoorW.PrintLast Go.Proofs.YtnkkndninilciaaDoorW.PrintMore

theorem pow_pos' (i : Nat) : 0 < (B : Int) ^ i := Int.pow_pos (by decide)
/-- One cell of the inner row. -/
theorem cell {a : List Int} (ha : Dig B a) {p : Nat} (hp : p < a.length) {c : Int} (hc : 0 ≤ c ∧ c < 10000000000) {x y : Int} (hx : 0 ≤ x ∧ x < 1000000000) (hy : 0 ≤ y ∧ y < 1000000000) (hpl : a.length ≤ 3000000) (i j : Nat) (hij : i + j = p) :
    ∃ s : Int, s = c + (a.getD p 0 + x * y) ∧ (0 ≤ s ∧ s < 10000000000000000000) ∧ Int.tmod (IntKind.u64.wrap (c + (IntKind.u64.wrap ((rd a (wrap64 ((i : Int) + (j : Int)))) + (IntKind.u64.wrap (x * y)))))) 1000000000 = s % 1000000000 ∧
      IntKind.u64.wrap (Int.tdiv (IntKind.u64.wrap (c + (IntKind.u64.wrap ((rd a (wrap64 ((i : Int) + (j : Int)))) + (IntKind.u64.wrap (x * y)))))) 1000000000) = s / 1000000000 ∧
      (0 ≤ s / 1000000000 ∧ s / 1000000000 < 10000000000) ∧ Dig B (a.set p (s % 1000000000)) ∧
      V B (a.set p (s % 1000000000)) + (B : Int) ^ (i + (j + 1)) * (s / 1000000000) = V B a + (B : Int) ^ (i + j) * c + (B : Int) ^ i * ((B : Int) ^ j * (x * y)) := by
  have hm0 : 0 ≤ x * y := Int.mul_nonneg hx.1 hy.1
  have hm1 : x * y ≤ 999999999 * 999999999 := Int.mul_le_mul (by omega) (by omega) hy.1 (by omega)
  have ha' := getD_mem (P := fun x => 0 ≤ x ∧ x < 1000000000) ha (by omega) p
  have hr : rd a (wrap64 ((i : Int) + (j : Int))) = a.getD p 0 := by
    rw [w64 (by omega) (by omega), show (i : Int) + j = (p : Int) by omega, rd_nat]
  refine ⟨_, rfl, ⟨by omega, by omega⟩, ?_, ?_, ⟨by omega, by omega⟩, mem_set ha ⟨by omega, by show _ < (1000000000 : Int); omega⟩ p, ?_⟩
  · rw [hr, wu (x := x * y) (by omega) (by omega), wu (x := a.getD p 0 + _) (by omega) (by omega), wu (by omega) (by omega), tm _ (by omega)]
  · rw [hr, wu (x := x * y) (by omega) (by omega), wu (x := a.getD p 0 + _) (by omega) (by omega), wu (x := c + _) (by omega) (by omega), td _ (by omega), wu (by omega) (by omega)]
  · obtain ⟨s, hs⟩ : ∃ s, s = c + (a.getD p 0 + x * y) := ⟨_, rfl⟩
    rw [← hs, V_set a p _ hp, ← Int.mul_assoc ((B : Int) ^ i), ← Int.pow_add, hij, show i + (j + 1) = p + 1 by omega, Int.pow_succ, Int.mul_assoc]
    have e : s % 1000000000 - a.getD p 0 + (B : Int) * (s / 1000000000) = c + x * y := by
      show _ + 1000000000 * _ = _
      omega
    have e2 : (B : Int) ^ p * (s % 1000000000 - a.getD p 0 + (B : Int) * (s / 1000000000)) = (B : Int) ^ p * (c + x * y) := by rw [e]
    rw [Int.mul_add, Int.mul_add] at e2
    omega

theorem times_l1 (n m : Nat) (h1 : (D9 n).length ≤ 1000000) (h2 : (D9 m).length ≤ 1000000) (i : Nat) (hi : i < (D9 n).length)
    (q : Nat) : ∀ (j : Nat) (a : List Int) (c : Int), i + j + q = (D9 n).length + (D9 m).length + 1 → (0 ≤ c ∧ c < 10000000000) → a.length = (D9 n).length + (D9 m).length + 1 → Dig B a →
    V B a + (B : Int) ^ (i + j) * c = V B ((D9 n).take i) * m + (B : Int) ^ i * ((D9 n).getD i 0 * V B ((D9 m).take j)) →
    ∃ a' : List Int, a'.length = (D9 n).length + (D9 m).length + 1 ∧ Dig B a' ∧ V B a' = V B ((D9 n).take (i + 1)) * m ∧
      ∀ R, Ev (fun k => nat_number_times.l0 k a' (D9 n) ((D9 n).length : Int) ((i + 1 : Nat) : Int) (D9 m)) R → Ev (fun k => nat_number_times.l1 k a (i : Int) ((D9 n).getD i 0) c (j : Int) (D9 n) ((D9 n).length : Int) (i : Int) (D9 m)) R := by
  have hB : V B ((D9 n).take (i + 1)) < (B : Int) ^ (i + 1) := by rw [D_take B2]; exact_mod_cast Nat.mod_lt n (Nat.pow_pos (by decide))
  have hx := D9_at n i
  have hmV : (m : Int) < (B : Int) ^ (D9 m).length := by
    have := (D_len B2 (n := m)).1 (Nat.le_refl _)
    exact_mod_cast this
  have htop : V B ((D9 n).take (i + 1)) * m < (B : Int) ^ (i + 1 + (D9 m).length) := by
    rw [D_take B2] at hB ⊢
    rw [Int.pow_add]
    have := Nat.mul_lt_mul'' (a := n % B ^ (i + 1)) (b := m) (c := B ^ (i + 1)) (d := B ^ (D9 m).length) (Nat.mod_lt n (Nat.pow_pos (by decide))) ((D_len B2 (n := m)).1 (Nat.le_refl _))
    exact_mod_cast this
  have hend : ∀ j, (D9 m).length ≤ j → V B ((D9 n).take i) * m + (B : Int) ^ i * ((D9 n).getD i 0 * V B ((D9 m).take j)) = V B ((D9 n).take (i + 1)) * m := by
    intro j hj
    rw [List.take_of_length_le hj, D9_V, V_take_next, Int.add_mul, Int.mul_assoc]
  induction q with
  | zero =>
    intro j a c hq hc hl ha hv
    -- i + j is behind the row: the carry is nought
    have hj : (D9 m).length ≤ j := by omega
    rw [hend j hj] at hv
    have hV := V_nonneg (b := (B : Int)) (by decide) ha.nonneg
    have hc0 : c = 0 := by
      rcases (show c = 0 ∨ 1 ≤ c by omega) with h | h
      · exact h
      · have e1 : (B : Int) ^ (i + j) * 1 ≤ (B : Int) ^ (i + j) * c := Int.mul_le_mul_of_nonneg_left h (by have := pow_pos' (i + j); omega)
        have e2 : (B : Int) ^ (i + 1 + (D9 m).length) ≤ (B : Int) ^ (i + j) := by
          exact_mod_cast Nat.pow_le_pow_right (n := B) (by decide) (show i + 1 + (D9 m).length ≤ i + j by omega)
        generalize (B : Int) ^ (i + j) = w at *
        generalize V B ((D9 n).take (i + 1)) * m = p at *
        generalize (B : Int) ^ (i + 1 + (D9 m).length) = r at *
        omega
    subst hc0
    rw [Int.mul_zero, Int.add_zero] at hv
    refine ⟨a, hl, ha, hv, fun R hR => Ev.step (f := fun k => nat_number_times.l0 k a (D9 n) ((D9 n).length : Int) ((i + 1 : Nat) : Int) (D9 m)) (fun k => ?_) hR⟩
    simp only [nat_number_times.l1]
    rw [if_neg (by omega), if_neg (by omega), w64 (by omega) (by omega)]
    rfl
  | succ q ih =>
    intro j a c hq hc hl ha hv
    by_cases hj : j < (D9 m).length
    · have hy := D9_at m j
      obtain ⟨s, hs, hs', e1, e2, hc', hd', hv'⟩ := cell ha (p := i + j) (by omega) hc hx hy (by omega) i j rfl
      obtain ⟨a', b1, b2, b3, b4⟩ := ih (j + 1) (a.set (i + j) (s % 1000000000)) (s / 1000000000) (by omega) hc' (by rw [List.length_set, hl]) hd' (by
        rw [hv', hv, V_take_next (D9 m) j, Int.mul_add ((D9 n).getD i 0), Int.mul_add ((B : Int) ^ i)]
        have : (B : Int) ^ j * ((D9 n).getD i 0 * (D9 m).getD j 0) = (D9 n).getD i 0 * ((B : Int) ^ j * (D9 m).getD j 0) := by
          rw [← Int.mul_assoc, ← Int.mul_assoc, Int.mul_comm ((B : Int) ^ j)]
        rw [this, Int.add_assoc])
      refine ⟨a', b1, b2, b3, fun R hR => Ev.step (f := _) (fun k => ?_) (b4 R hR)⟩
      simp only [nat_number_times.l1]
      rw [if_pos (by omega), if_pos (by rw [w64 (by omega) (by omega)]; omega), if_pos (by rw [w64 (by omega) (by omega)]; omega), at_f]
      simp only [Option.bind_some]
      rw [e1, e2, w64 (x := (i : Int) + j) (by omega) (by omega), show ((i : Int) + j).toNat = i + j by omega, w64 (by omega) (by omega)]
      rfl
    · by_cases hc0 : c = 0
      · subst hc0
        rw [hend j (by omega), Int.mul_zero, Int.add_zero] at hv
        refine ⟨a, hl, ha, hv, fun R hR => Ev.step (f := fun k => nat_number_times.l0 k a (D9 n) ((D9 n).length : Int) ((i + 1 : Nat) : Int) (D9 m)) (fun k => ?_) hR⟩
        simp only [nat_number_times.l1]
        rw [if_neg (by omega), if_neg (by omega), w64 (by omega) (by omega)]
        rfl
      · have h0 : (D9 m).getD j 0 = 0 := by rw [List.getD_eq_getElem?_getD, List.getElem?_eq_none (by omega)]; rfl
        obtain ⟨s, hs, hs', e1, e2, hc', hd', hv'⟩ := cell ha (p := i + j) (by omega) hc hx (y := (D9 m).getD j 0) (by omega) (by omega) i j rfl
        obtain ⟨a', b1, b2, b3, b4⟩ := ih (j + 1) (a.set (i + j) (s % 1000000000)) (s / 1000000000) (by omega) hc' (by rw [List.length_set, hl]) hd' (by
          rw [hv', hv, hend j (by omega), hend (j + 1) (by omega), h0]
          simp)
        refine ⟨a', b1, b2, b3, fun R hR => Ev.step (f := _) (fun k => ?_) (b4 R hR)⟩
        simp only [nat_number_times.l1]
        rw [if_neg (by omega), if_pos (by omega), if_pos (by rw [w64 (by omega) (by omega)]; omega), if_pos (by rw [w64 (by omega) (by omega)]; omega), at_f]
        simp only [Option.bind_some]
        rw [e1, e2, w64 (x := (i : Int) + j) (by omega) (by omega), show ((i : Int) + j).toNat = i + j by omega, w64 (by omega) (by omega)]
        rfl

theorem times_l0 (n m : Nat) (h1 : (D9 n).length ≤ 1000000) (h2 : (D9 m).length ≤ 1000000) (q : Nat) : ∀ (i : Nat) (a : List Int), i + q = (D9 n).length →
    a.length = (D9 n).length + (D9 m).length + 1 → Dig B a → V B a = V B ((D9 n).take i) * m →
    Ev (fun k => nat_number_times.l0 k a (D9 n) ((D9 n).length : Int) (i : Int) (D9 m)) (D9 (n * m)) := by
  induction q with
  | zero =>
    intro i a hq hl ha hv
    rw [List.take_of_length_le (by omega), D9_V] at hv
    refine Ev.step (f := fun k => (nat_carried.f k a).bind fun t => some t) (fun k => ?_) ?_
    · simp only [nat_number_times.l0]
      rw [if_neg (by omega)]
    · have e : (V B a).toNat = n * m := by rw [hv, ← Int.natCast_mul]; rfl
      rw [← e]
      refine Ev.bind (carried_f a (fun x hx => ?_) (by omega)) (Ev.now _)
      have := Dig9 ha x hx
      omega
  | succ q ih =>
    intro i a hq hl ha hv
    obtain ⟨a', b1, b2, b3, b4⟩ := times_l1 n m h1 h2 i (by omega) ((D9 n).length + (D9 m).length + 1 - i) 0 a 0 (by omega) (by omega) hl ha (by simpa [V] using hv)
    refine Ev.step (f := fun k => nat_number_times.l1 k a (i : Int) ((D9 n).getD i 0) 0 ((0 : Nat) : Int) (D9 n) ((D9 n).length : Int) (i : Int) (D9 m)) (fun k => ?_) (b4 _ (ih (i + 1) a' (by omega) b1 b2 b3))
    simp only [nat_number_times.l0]
    rw [if_pos (by omega), if_pos (by omega), if_pos (by omega), rd_nat]
    rfl
theorem times_f (n m : Nat) (h1 : (D9 n).length ≤ 1000000) (h2 : (D9 m).length ≤ 1000000) : Ev (fun k => nat_number_times.f k (D9 n) (D9 m)) (D9 (n * m)) := by
  refine Ev.congr (fun k => ?_) (times_l0 n m h1 h2 (D9 n).length 0 (List.replicate ((D9 n).length + (D9 m).length + 1) 0) (by omega) (by simp) (Fill.start (P := fun x => 0 ≤ x ∧ x < ((B : Nat) : Int)) (by decide) _).all (by rw [V_replicate]; simp [V]))
  unfold nat_number_times.f
  rw [w64 (x := ((D9 n).length : Int) + _) (by omega) (by omega), w64 (by omega) (by omega), if_pos (by omega), if_pos (by omega), show (((D9 n).length : Int) + ((D9 m).length : Int) + 1).toNat = (D9 n).length + (D9 m).length + 1 by omega]
  rfl
theorem one_f (x : Nat) (h : x < 9223372036854775808) : Ev (fun k => nat_carried.f k [(x : Int)]) (D9 x) := by
  have := carried_f [(x : Int)] (fun y hy => by rw [List.mem_singleton] at hy; omega) (by simp)
  simpa [V] using this
theorem D9_small {x : Nat} (h : x < 1000000000000000000) : (D9 x).length ≤ 2 := (D_len B2).2 (by show x < 1000000000 ^ 2; omega)
theorem scaled_f (n x : Nat) (h1 : (D9 n).length ≤ 1000000) (hx : x < 1000000000000000000) : Ev (fun k => nat_number_scaled.f k (D9 n) (x : Int)) (D9 (n * x)) := by
  unfold nat_number_scaled.f
  refine Ev.bind (one_f x (by omega)) (Ev.bind (times_f n x h1 (by have := D9_small hx; omega)) (Ev.now _))

theorem digit_l0 (r d : Nat) (hd : 0 < d) (h1 : (D9 d).length ≤ 900000) (q : Nat) : ∀ (lo hi : Nat), hi - lo ≤ q → lo ≤ r / d → r / d ≤ hi → hi < 1000000000 →
    Ev (fun k => nat_number_digit.l0 k (lo : Int) (hi : Int) (D9 r) (D9 d)) ((r / d : Nat) : Int) := by
  induction q with
  | zero =>
    intro lo hi hq h2 h3 h4
    refine Ev.step (f := fun _ => some (lo : Int)) (fun k => ?_) ?_
    · simp only [nat_number_digit.l0]
      rw [if_neg (by omega)]
    · rw [show lo = r / d by omega]; exact Ev.now _
  | succ q ih =>
    intro lo hi hq h2 h3 h4
    by_cases hlt : lo < hi
    · obtain ⟨p, hp⟩ : ∃ p, p = (lo + hi + 1) / 2 := ⟨_, rfl⟩
      have hlen : (D9 (d * p)).length ≤ 1000000 := by
        have e1 : (D9 (d * p)).length ≤ (D9 d).length + (D9 p).length := D_len_mul B2 d p
        have e2 := D9_small (x := p) (by omega)
        omega
      refine Ev.step (f := fun k => (nat_number_scaled.f k (D9 d) (p : Int)).bind fun t => (nat_number_compare.f k t (D9 r)).bind fun u => if u ≤ 0 then nat_number_digit.l0 k (p : Int) (hi : Int) (D9 r) (D9 d) else nat_number_digit.l0 k (lo : Int) ((p - 1 : Nat) : Int) (D9 r) (D9 d)) (fun k => ?_) ?_
      · simp only [nat_number_digit.l0]
        rw [if_pos (by omega), wu (x := (lo : Int) + hi) (by omega) (by omega), wu (x := (lo : Int) + hi + 1) (by omega) (by omega), td _ (by omega), wu (x := ((lo : Int) + hi + 1) / 2) (by omega) (by omega), wu (by omega) (by omega), show ((lo : Int) + hi + 1) / 2 = (p : Int) by omega, show (p : Int) - 1 = ((p - 1 : Nat) : Int) by omega]
      · refine Ev.bind (scaled_f d p (by omega) (by omega)) (Ev.bind (compare_f (d * p) r hlen) ?_)
        by_cases hle : d * p ≤ r
        · have : p ≤ r / d := (Nat.le_div_iff_mul_le hd).2 (by rw [Nat.mul_comm]; exact hle)
          exact Ev.congr (fun k => if_pos (sgn_le.2 (by omega))) (ih p hi (by omega) this h3 h4)
        · have : r / d < p := (Nat.div_lt_iff_lt_mul hd).2 (by rw [Nat.mul_comm]; omega)
          exact Ev.congr (fun k => if_neg (fun h => by rw [sgn_le] at h; omega)) (ih lo (p - 1) (by omega) h2 (by omega) (by omega))
    · refine Ev.step (f := fun _ => some (lo : Int)) (fun k => ?_) ?_
      · simp only [nat_number_digit.l0]
        rw [if_neg (by omega)]
      · rw [show lo = r / d by omega]; exact Ev.now _
theorem digit_f (r d : Nat) (hr : r < d * B) (h1 : (D9 d).length ≤ 900000) : Ev (fun k => nat_number_digit.f k (D9 r) (D9 d)) ((r / d : Nat) : Int) := by
  have hd : 0 < d := by
    rcases Nat.eq_zero_or_pos d with h | h
    · subst h; omega
    · exact h
  have : r / d < B := (Nat.div_lt_iff_lt_mul hd).2 (by rw [Nat.mul_comm]; exact hr)
  refine Ev.congr (fun k => rfl) (digit_l0 r d hd h1 1000000000 0 999999999 (by omega) (Nat.zero_le _) ?_ (by omega))
  have h2 : r / d < 1000000000 := this
  omega

theorem parted_l0 (n d : Nat) (hd : 0 < d) (h1 : (D9 n).length ≤ 800000) (h2 : (D9 d).length ≤ 800000) : ∀ (i : Nat) (a : List Int) (r : Nat), i ≤ (D9 n).length →
    a.length = (D9 n).length → Dig B a → r < d → V B ((D9 n).drop i) = d * V B (a.drop i) + r →
    Ev (fun k => nat_number_parted.l0 k a ((i : Int) - 1) (D9 n) (D9 d) (D9 r)) (D9 (n / d), D9 (n % d)) := by
  intro i
  induction i with
  | zero =>
    intro a r hi hl ha hr hv
    refine Ev.step (f := fun k => (nat_carried.f k a).bind fun t => some (t, D9 r)) (fun k => ?_) ?_
    · simp only [nat_number_parted.l0]
      rw [if_neg (by omega)]
    · simp only [List.drop_zero, D9_V] at hv
      have hV := V_nonneg (b := (B : Int)) (by decide) ha.nonneg
      obtain ⟨v, hv'⟩ : ∃ v : Nat, V B a = v := ⟨(V B a).toNat, by omega⟩
      have e : n = d * v + r := by rw [hv'] at hv; exact_mod_cast hv
      have e1 : n / d = v := by rw [e, Nat.mul_add_div hd, Nat.div_eq_of_lt hr, Nat.add_zero]
      have e2 : n % d = r := by rw [e, Nat.mul_add_mod, Nat.mod_eq_of_lt hr]
      rw [e1, e2, show v = (V B a).toNat by omega]
      refine Ev.bind (carried_f a (fun x hx => ?_) (by omega)) (Ev.now _)
      have := Dig9 ha x hx
      omega
  | succ i ih =>
    intro a r hi hl ha hr hv
    have hx := D9_at n i
    obtain ⟨x, hx'⟩ : ∃ x : Nat, (D9 n).getD i 0 = x := ⟨((D9 n).getD i 0).toNat, by omega⟩
    rw [hx'] at hx
    obtain ⟨s, hs⟩ : ∃ s, s = x + B * r := ⟨_, rfl⟩
    have hsd : s < d * B := by
      have e1 : B * (r + 1) ≤ B * d := Nat.mul_le_mul_left _ (by omega)
      rw [Nat.mul_add, Nat.mul_comm B d] at e1
      have e2 : x < B := by show x < 1000000000; omega
      omega
    have hrl : (D9 r).length ≤ 800000 := by
      have : (D9 r).length ≤ (D9 d).length := D_len_mono B2 (by omega)
      omega
    have hq : s / d < B := (Nat.div_lt_iff_lt_mul hd).2 (by rw [Nat.mul_comm]; exact hsd)
    have hq' : s / d < 1000000000 := hq
    have hsl : (D9 s).length ≤ 900000 := by
      have e1 : (D9 s).length ≤ (D9 (d * B)).length := D_len_mono B2 (by omega)
      have e2 : (D9 (d * B)).length ≤ (D9 d).length + (D9 B).length := D_len_mul B2 d B
      have e3 := D9_small (x := B) (by decide)
      omega
    have e0 : Ev (fun k => nat_carried.f k ([(x : Int)] ++ D9 r)) (D9 s) := by
      have := carried_f ([(x : Int)] ++ D9 r) (fun y hy => by
        rcases List.mem_append.1 hy with h | h
        · rw [List.mem_singleton] at h; omega
        · have := D9_lt r y h; omega) (by simp; omega)
      rw [List.singleton_append, V, D9_V] at this
      have e : ((x : Int) + (B : Int) * (r : Int)).toNat = s := by rw [hs, ← Int.natCast_mul, ← Int.natCast_add]; rfl
      rw [e] at this
      exact this
    have hmul : d * (s / d) ≤ s := Nat.mul_div_le s d
    have hsub : s - d * (s / d) = s % d := by have := Nat.div_add_mod s d; omega
    refine Ev.step (f := fun k => (nat_carried.f k ([(x : Int)] ++ D9 r)).bind fun t237 => ((nat_number_digit.f k t237 (D9 d)).bind fun t240 => ((some (a.set i t240)).bind fun y241 => ((nat_number_scaled.f k (D9 d) (y241.getD i 0)).bind fun t243 => ((nat_number_less.f k t237 t243).bind fun t246 => (nat_number_parted.l0 k y241 ((i : Int) - 1) (D9 n) (D9 d) t246)))))) (fun k => ?_) ?_
    · simp only [nat_number_parted.l0]
      rw [if_pos (by omega), show ((i + 1 : Nat) : Int) - 1 = (i : Int) by omega, at_f]
      simp only [Option.bind_some]
      rw [if_pos (by simp; omega), hx']
      congr 1; funext t237
      congr 1; funext t240
      rw [if_pos (by omega), if_pos (by omega), w64 (by omega) (by omega), rd_nat]
      rfl
    · refine Ev.bind e0 (Ev.bind (digit_f s d hsd (by omega)) (Ev.bind (Ev.now _) ?_))
      rw [getD_set_eq _ (by omega)]
      refine Ev.bind (scaled_f d (s / d) (by omega) (by omega)) (Ev.bind (less_f s (d * (s / d)) hmul (by omega)) ?_)
      rw [hsub]
      refine ih (a.set i ((s / d : Nat) : Int)) (s % d) (by omega) (by rw [List.length_set, hl]) (mem_set ha ⟨Int.natCast_nonneg _, Int.ofNat_lt.2 hq⟩ i) (Nat.mod_lt _ hd) ?_
      rw [V_getD (D9 n) i, hv, hx', V_getD (a.set i _) i, getD_set_eq _ (by omega), List.drop_set_of_lt (by omega)]
      have hm := Nat.div_add_mod s d
      have hm' : ((d * (s / d) + s % d : Nat) : Int) = x + B * r := by rw [hm, hs]; simp
      rw [Int.natCast_add, Int.natCast_mul] at hm'
      have hc : (d : Int) * ((B : Int) * V B (a.drop (i + 1))) = (B : Int) * ((d : Int) * V B (a.drop (i + 1))) := by rw [← Int.mul_assoc, ← Int.mul_assoc, Int.mul_comm (d : Int)]
      rw [Int.mul_add, Int.mul_add, hc]
      generalize (B : Int) * ((d : Int) * V B (a.drop (i + 1))) = p at *
      generalize (d : Int) * ((s / d : Nat) : Int) = u at *
      generalize ((s % d : Nat) : Int) = t at *
      omega
theorem parted_f (n d : Nat) (hd : 0 < d) (h1 : (D9 n).length ≤ 800000) (h2 : (D9 d).length ≤ 800000) : Ev (fun k => nat_number_parted.f k (D9 n) (D9 d)) (D9 (n / d), D9 (n % d)) := by
  have := parted_l0 n d hd h1 h2 (D9 n).length (List.replicate (D9 n).length 0) 0 (by omega) (by simp) (Fill.start (P := fun x => 0 ≤ x ∧ x < ((B : Nat) : Int)) (by decide) _).all hd (by simp [V])
  refine Ev.congr (fun k => ?_) this
  unfold nat_number_parted.f
  rw [if_pos (by omega), if_pos (by omega)]
  simp only [Option.bind_some, List.length_replicate, Int.toNat_natCast]
  rw [w64 (by omega) (by omega), show D9 0 = [] from D_zero B]
end Go.Proofs.YtnkkndninilciaaDoor.M
