/- What the reference functions compute, in plain Lean over their printed forms: times, Mul. -/
import Derived.Test.YtnkkndninilciaaDoorRef2
namespace Go.Proofs.YtnkkndninilciaaDoor.M
open Go.RowKit Go.Proofs.YtnkkndninilciaaDoor.X Go.Proofs.YtnkkndninilciaaDoorW.PrintWords Go.Proofs.YtnkkndninilciaaDoorW.PrintLast Go.Proofs.YtnkkndninilciaaDoorW.PrintMore

theorem D10_at (n i : Nat) : 0 ≤ (D10 n).getD i 0 ∧ (D10 n).getD i 0 < 10 := getD_mem (P := fun x => 0 ≤ x ∧ x < 10) (D10_lt n) (by omega) i
/-- The sums, digit by digit, made to digits. -/
theorem rtimes_l2 (a : List Int) (ha : ∀ x ∈ a, 0 ≤ x ∧ x < 1000000000000000) (hn : a.length ≤ 1000000) (hv : V T a < (T : Int) ^ a.length) (q : Nat) : ∀ (i : Nat) (o : List Int) (c : Int), i + q = a.length → (0 ≤ c ∧ c < 1000000000000000) →
    Fill (fun x => 0 ≤ x ∧ x < 10) a.length i o → V T o + (T : Int) ^ i * c = V T (a.take i) →
    Ev (fun k => whetstoneref01_times.l2 k a o c (i : Int)) (D10 (V T a).toNat) := by
  induction q with
  | zero =>
    intro i o c hi hc ho he
    rw [List.take_of_length_le (by omega)] at he
    have h0 := V_nonneg (b := (T : Int)) (by decide) (fun x hx => (ho.all x hx).1)
    have hc0 : c = 0 := by
      rcases (show c = 0 ∨ 1 ≤ c by omega) with h | h
      · exact h
      · have e1 : (T : Int) ^ i * 1 ≤ (T : Int) ^ i * c := Int.mul_le_mul_of_nonneg_left h (Int.le_of_lt (Int.pow_pos (by decide)))
        rw [show a.length = i by omega] at hv
        generalize (T : Int) ^ i * c = w at *
        generalize (T : Int) ^ i = r at *
        omega
    rw [hc0, Int.mul_zero, Int.add_zero] at he
    refine Ev.step (f := fun k => (whetstoneref01_trim.f k o).bind fun t => some t) (fun k => ?_) ?_
    · simp only [whetstoneref01_times.l2]
      rw [if_neg (by omega)]
    · rw [← he]
      exact Ev.bind (rtrim_f o ho.all (by rw [ho.len]; omega)) (Ev.now _)
  | succ q ih =>
    intro i o c hi hc ho he
    have hx := getD_mem (P := fun x => 0 ≤ x ∧ x < 1000000000000000) ha (by omega) i
    have hl := ho.len
    obtain ⟨s, hs⟩ : ∃ s, s = c + a.getD i 0 := ⟨_, rfl⟩
    refine Ev.step (f := fun k => whetstoneref01_times.l2 k a (o.set i (s % 10)) (s / 10) ((i + 1 : Nat) : Int)) (fun k => ?_) (ih (i + 1) _ _ (by omega) (by omega) (ho.set (by omega)) ?_)
    · simp only [whetstoneref01_times.l2]
      rw [if_pos (by omega), if_pos (by omega), if_pos (by omega), rd_nat, ← hs, w64 (x := s) (by omega) (by omega), tm _ (by omega), td _ (by omega), w64 (by omega) (by omega), w64 (by omega) (by omega), Int.emod_eq_of_lt (b := 256) (by omega) (by omega)]
      rfl
    · rw [ho.val T _ (by omega), V_take_next, ← he, Int.pow_succ, Int.mul_assoc]
      have e : s % 10 + (T : Int) * (s / 10) = c + a.getD i 0 := by
        show _ + (10 : Int) * _ = _
        omega
      have e2 : (T : Int) ^ i * (s % 10 + (T : Int) * (s / 10)) = (T : Int) ^ i * (c + a.getD i 0) := by rw [e]
      rw [Int.mul_add, Int.mul_add] at e2
      generalize (T : Int) ^ i * (s % 10) = p1 at *
      generalize (T : Int) ^ i * ((T : Int) * (s / 10)) = p2 at *
      generalize (T : Int) ^ i * c = p3 at *
      generalize (T : Int) ^ i * a.getD i 0 = p4 at *
      omega
theorem rtimes_l1 (n m : Nat) (h1 : (D10 n).length ≤ 100000) (h2 : (D10 m).length ≤ 100000) (i : Nat) (hi : i < (D10 n).length) (q : Nat) : ∀ (j : Nat) (a : List Int) (M : Nat), j + q = (D10 m).length → M + 100 * q ≤ 100000000000000 →
    a.length = (D10 n).length + (D10 m).length → (∀ x ∈ a, 0 ≤ x ∧ x ≤ M) → V T a = V T ((D10 n).take i) * m + (T : Int) ^ i * ((D10 n).getD i 0 * V T ((D10 m).take j)) →
    ∃ a' : List Int, a'.length = (D10 n).length + (D10 m).length ∧ (∀ x ∈ a', 0 ≤ x ∧ x ≤ M + 100 * q) ∧ V T a' = V T ((D10 n).take (i + 1)) * m ∧
      ∀ R, Ev (fun k => whetstoneref01_times.l0 k (D10 n) (D10 m) a' ((i + 1 : Nat) : Int)) R → Ev (fun k => whetstoneref01_times.l1 k (D10 n) (D10 m) a (i : Int) (j : Int)) R := by
  induction q with
  | zero =>
    intro j a M hj hM hl ha hv
    refine ⟨a, hl, fun x hx => by have := ha x hx; omega, ?_, fun R hR => Ev.step (fun k => ?_) hR⟩
    · rw [hv, V_take_next, show (D10 m).take j = D10 m from List.take_of_length_le (by omega), D10_V, Int.add_mul, Int.mul_assoc]
    · simp only [whetstoneref01_times.l1]
      rw [if_neg (by omega), w64 (by omega) (by omega)]
      rfl
  | succ q ih =>
    intro j a M hj hM hl ha hv
    have hx := D10_at n i
    have hy := D10_at m j
    obtain ⟨x, hx'⟩ : ∃ x, x = (D10 n).getD i 0 := ⟨_, rfl⟩
    obtain ⟨y, hy'⟩ : ∃ y, y = (D10 m).getD j 0 := ⟨_, rfl⟩
    have hc := getD_mem (P := fun x => 0 ≤ x ∧ x ≤ M) ha (by omega) (i + j)
    have hm0 : 0 ≤ x * y := Int.mul_nonneg (by omega) (by omega)
    have hm1 : x * y ≤ 9 * 9 := Int.mul_le_mul (by omega) (by omega) (by omega) (by omega)
    obtain ⟨a', b1, b2, b3, b4⟩ := ih (j + 1) (a.set (i + j) (a.getD (i + j) 0 + x * y)) (M + 100) (by omega) (by omega) (by rw [List.length_set, hl])
      (mem_set (fun z hz => by have := ha z hz; omega) ⟨by omega, by omega⟩ _) (by
        rw [V_set a (i + j) _ (by omega), hv, V_take_next (D10 m) j, ← hx', ← hy', Int.mul_add x, Int.mul_add ((T : Int) ^ i), show a.getD (i + j) 0 + x * y - a.getD (i + j) 0 = x * y by omega, Int.pow_add]
        have : (T : Int) ^ i * (T : Int) ^ j * (x * y) = (T : Int) ^ i * (x * ((T : Int) ^ j * y)) := by
          rw [Int.mul_assoc, ← Int.mul_assoc ((T : Int) ^ j), ← Int.mul_assoc x, Int.mul_comm ((T : Int) ^ j) x]
        rw [this, Int.add_assoc])
    refine ⟨a', b1, fun z hz => by have := b2 z hz; omega, b3, fun R hR => Ev.step (fun k => ?_) (b4 R hR)⟩
    clear b2 b3 b4 hv ih
    rw [← hx'] at hx
    rw [← hy'] at hy
    have g1 : (j : Int) < ((D10 m).length : Int) := by omega
    have g2 : ((i + j : Nat) : Int) < (a.length : Int) := by omega
    have g3 : (i : Int) < ((D10 n).length : Int) := by omega
    have ew : wrap64 ((i : Int) + j) = ((i + j : Nat) : Int) := by rw [w64 (by omega) (by omega)]; omega
    have ej : wrap64 ((j : Int) + 1) = ((j + 1 : Nat) : Int) := by rw [w64 (by omega) (by omega)]; omega
    have rx : wrap64 (rd (D10 n) (i : Int)) = x := by rw [rd_nat, ← hx']; exact w64 (by omega) (by omega)
    have ry : wrap64 (rd (D10 m) (j : Int)) = y := by rw [rd_nat, ← hy']; exact w64 (by omega) (by omega)
    have rc : wrap64 (rd a ((i + j : Nat) : Int) + wrap64 (x * y)) = a.getD (i + j) 0 + x * y := by
      rw [rd_nat, w64 (x := x * y) (by omega) (by omega)]
      exact w64 (x := a.getD (i + j) 0 + x * y) (by omega) (by omega)
    simp only [whetstoneref01_times.l1]
    rw [if_pos g1, ew, if_pos (Int.natCast_nonneg _), if_pos g2, if_pos (Int.natCast_nonneg _), if_pos g3, if_pos (Int.natCast_nonneg _), rx, ry, rc, ej, Int.toNat_natCast]
theorem rtimes_l0 (n m : Nat) (h1 : (D10 n).length ≤ 100000) (h2 : (D10 m).length ≤ 100000) (hm0 : 0 < (D10 m).length) (q : Nat) : ∀ (i : Nat) (a : List Int) (M : Nat), i + q = (D10 n).length → M + 10000000 * q ≤ 100000000000000 →
    a.length = (D10 n).length + (D10 m).length → (∀ x ∈ a, 0 ≤ x ∧ x ≤ M) → V T a = V T ((D10 n).take i) * m →
    Ev (fun k => whetstoneref01_times.l0 k (D10 n) (D10 m) a (i : Int)) (D10 (n * m)) := by
  induction q with
  | zero =>
    intro i a M hi hM hl ha hv
    rw [List.take_of_length_le (by omega), D10_V] at hv
    have e : (V T a).toNat = n * m := by rw [hv, ← Int.natCast_mul]; rfl
    have hlt : V T a < (T : Int) ^ a.length := by
      rw [hv, hl, Int.pow_add]
      have := Nat.mul_lt_mul'' ((D_len T2 (n := n)).1 (Nat.le_refl _)) ((D_len T2 (n := m)).1 (Nat.le_refl _))
      exact_mod_cast this
    rw [← e]
    refine Ev.step (f := fun k => whetstoneref01_times.l2 k a (List.replicate a.length 0) 0 ((0 : Nat) : Int)) (fun k => ?_) (rtimes_l2 a (fun x hx => by have := ha x hx; omega) (by omega) hlt a.length 0 _ 0 (by omega) (by omega) (Fill.start (by omega) _) (by rw [V_replicate]; simp [V]))
    simp only [whetstoneref01_times.l0]
    rw [if_neg (by omega), if_pos (by omega), if_pos (by omega), Int.toNat_natCast]
    rfl
  | succ q ih =>
    intro i a M hi hM hl ha hv
    obtain ⟨a', b1, b2, b3, b4⟩ := rtimes_l1 n m h1 h2 i (by omega) (D10 m).length 0 a M (by omega) (by omega) hl ha (by simpa [V] using hv)
    refine Ev.step (fun k => ?_) (b4 _ (ih (i + 1) a' (M + 10000000) (by omega) (by omega) b1 (fun x hx => by have := b2 x hx; omega) b3))
    simp only [whetstoneref01_times.l0]
    rw [if_pos (by omega)]
    rfl
theorem rtimes_f (n m : Nat) (h1 : (D10 n).length ≤ 100000) (h2 : (D10 m).length ≤ 100000) : Ev (fun k => whetstoneref01_times.f k (D10 n) (D10 m)) (D10 (n * m)) := by
  have h0 : ∀ n, (D10 n).length = 0 → n = 0 := fun n h => by
    have := (D_len T2 (n := n) (k := 0)).1 (by show (D10 n).length ≤ 0; omega)
    simpa using this
  by_cases hn : (D10 n).length = 0
  · obtain rfl := h0 n hn
    rw [Nat.zero_mul, show D10 0 = [] from D_zero T]
    refine Ev.congr (f := fun k => whetstoneref01_times.j0 k [] (D10 m) true) (fun k => if_pos (by simp)) (Ev.step (f := fun _ => some []) (fun k => ?_) (Ev.now _))
    simp only [whetstoneref01_times.j0]
    rw [if_pos trivial]
  · by_cases hm : (D10 m).length = 0
    · obtain rfl := h0 m hm
      rw [Nat.mul_zero, show D10 0 = [] from D_zero T]
      refine Ev.congr (f := fun k => whetstoneref01_times.j0 k (D10 n) [] true) (fun k => ?_) (Ev.step (f := fun _ => some []) (fun k => ?_) (Ev.now _))
      · unfold whetstoneref01_times.f
        rw [if_neg (by omega)]
        rfl
      · simp only [whetstoneref01_times.j0]
        rw [if_pos trivial]
    · refine Ev.congr (f := fun k => whetstoneref01_times.j0 k (D10 n) (D10 m) false) (fun k => ?_) (Ev.step (fun k => ?_) (rtimes_l0 n m h1 h2 (by omega) (D10 n).length 0 (List.replicate ((D10 n).length + (D10 m).length) 0) 0 (by omega) (by omega) (by simp) (fun x hx => by rw [List.eq_of_mem_replicate hx]; omega) (by rw [V_replicate]; simp [V])))
      · unfold whetstoneref01_times.f
        rw [if_neg (by omega), show (((D10 m).length : Int) == 0) = false from by simp; exact fun h => hm (by simp [h])]
      · simp only [whetstoneref01_times.j0]
        rw [if_neg (by simp), w64 (by omega) (by omega), if_pos (by omega), if_pos (by omega), show (((D10 n).length : Int) + ((D10 m).length : Int)).toNat = (D10 n).length + (D10 m).length by omega]
        rfl
theorem rMul_l0 (s : List (List Int)) : ∀ (p : List (List Int)) (n : Nat), (∀ l ∈ s, Row 100 l) → (D10 n).length + 1000 * s.length ≤ 100000 → p.length + s.length ≤ 1000 →
    Ev (fun k => whetstoneref01_Mul.l0 k (p ++ s) (D10 n) (p.length : Int)) (D9 (n * prodV s)) := by
  induction s with
  | nil =>
    intro p n hs hn hp
    refine Ev.step (f := fun k => (whetstoneref01_write.f k (D10 n)).bind fun t => some t) (fun k => ?_) ?_
    · simp only [whetstoneref01_Mul.l0]
      rw [if_neg (by simp)]
    · rw [prodV, Nat.mul_one]
      exact Ev.bind (rwrite_f n (by omega)) (Ev.now _)
  | cons l s ih =>
    intro p n hs hn hp
    have hl := hs l (by simp)
    simp only [List.length_cons] at hn hp
    refine Ev.step (f := fun k => (whetstoneref01_read.f k l).bind fun t153 => (whetstoneref01_times.f k (D10 n) t153).bind fun t156 => whetstoneref01_Mul.l0 k ((p ++ [l]) ++ s) t156 ((p ++ [l]).length : Int)) (fun k => ?_) ?_
    · simp only [whetstoneref01_Mul.l0]
      rw [if_pos (by simp; omega), if_pos (by omega), rd_L2_nat, getD_append, w64 (by omega) (by omega)]
      simp
    · have h1 := hl.len10
      have h2 : (D10 (n * val l)).length ≤ (D10 n).length + (D10 (val l)).length := D_len_mul T2 n (val l)
      have h3 := rread_f l (hl.le (by decide))
      have h4 := rtimes_f n (val l) (by omega) (by omega)
      refine Ev.bind h3 (Ev.bind h4 ?_)
      have e : n * prodV (l :: s) = n * val l * prodV s := by rw [prodV, Nat.mul_assoc]
      rw [e]
      exact ih (p ++ [l]) (n * val l) (fun y hy => hs y (by simp [hy])) (by omega) (by simp; omega)
theorem rMul_f (L : List (List Int)) (hL : ∀ l ∈ L, Row 100 l) (hn : L.length ≤ 20) : Ev (fun k => whetstoneref01_Mul.f k L) (D9 (prodV L)) := by
  have h1 : D10 1 = [1] := by show D T 1 = _; rw [D_pos T2 (by decide)]; show _ :: D T 0 = _; rw [D_zero]; rfl
  have := rMul_l0 L [] 1 hL (by rw [h1]; simp; omega) (by simp; omega)
  rw [Nat.one_mul, h1] at this
  exact this
end Go.Proofs.YtnkkndninilciaaDoor.M
