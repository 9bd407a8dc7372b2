/- What the reference functions compute, in plain Lean over their printed forms: write, Add, times, Mul. -/
import Derived.Test.YtnkkndninilciaaDoorRef1
namespace Go.Proofs.YtnkkndninilciaaDoor.M
open Go.RowKit Go.Proofs.YtnkkndninilciaaDoor.X Go.Proofs.YtnkkndninilciaaDoorW.PrintWords Go.Proofs.YtnkkndninilciaaDoorW.PrintLast Go.Proofs.YtnkkndninilciaaDoorW.PrintMore

theorem seg_step (l : List Int) (hi j : Nat) (hj : j < hi) : V T ((l.take hi).drop j) = l.getD j 0 + T * V T ((l.take hi).drop (j + 1)) := by
  rw [V_getD (l.take hi) j]
  congr 1
  simp only [List.getD, List.getElem?_take, if_pos hj]
theorem rwrite_l1 (l : List Int) (hl : Dig T l) (hn : l.length ≤ 1000000) (o : List Int) (ho : o.length ≤ 1000000) (i hi : Nat) (hih : hi ≤ l.length) (hi9 : hi ≤ i + 9) (q : Nat) : ∀ (j : Nat) (x : Nat), j = i + q → j ≤ hi → (x : Int) = V T ((l.take hi).drop j) → x < 10 ^ (hi - j) →
    ∀ (R : List Int), (∀ y : Nat, (y : Int) = V T ((l.take hi).drop i) → Ev (fun k => whetstoneref01_write.l0 k l (o ++ [(y : Int)]) (wrap64 ((i : Int) + 9))) R) →
    Ev (fun k => whetstoneref01_write.l1 k l o (i : Int) (x : Int) ((j : Int) - 1)) R := by
  induction q with
  | zero =>
    intro j x hj hj' hx hx2 R hR
    subst hj
    refine Ev.step (fun k => ?_) (hR x hx)
    simp only [whetstoneref01_write.l1]
    rw [if_neg (by omega), if_pos (by omega)]
  | succ q ih =>
    intro j x hj hj' hx hx2 R hR
    subst hj
    have hd := getD_mem (P := fun x => 0 ≤ x ∧ x < 10) (Dig10 hl) (by omega) (i + q)
    obtain ⟨d, hd'⟩ : ∃ d : Nat, l.getD (i + q) 0 = d := ⟨(l.getD (i + q) 0).toNat, by omega⟩
    rw [hd'] at hd
    have hb : 10 ^ (hi - (i + (q + 1))) ≤ 10 ^ 8 := Nat.pow_le_pow_right (by omega) (by omega)
    have hp : 10 ^ (hi - (i + q)) = 10 ^ (hi - (i + (q + 1))) * 10 := by rw [← Nat.pow_succ]; congr 1; omega
    refine Ev.step (f := fun k => whetstoneref01_write.l1 k l o (i : Int) ((10 * x + d : Nat) : Int) (((i + q : Nat) : Int) - 1)) (fun k => ?_) (ih (i + q) (10 * x + d) rfl (by omega) ?_ ?_ R hR)
    · simp only [whetstoneref01_write.l1]
      rw [if_pos (by omega), if_pos (by omega), if_pos (by omega), show ((i + (q + 1) : Nat) : Int) - 1 = ((i + q : Nat) : Int) by omega, rd_nat, hd', w64 (by omega) (by omega), Int.emod_eq_of_lt (by omega) (by omega)]
      congr 1
    · rw [seg_step l hi (i + q) (by omega), hd', Nat.add_assoc, ← hx]
      show _ = _ + (10 : Int) * _
      omega
    · rw [hp]; omega
theorem rwrite_l0 (n : Nat) (hn : (D10 n).length ≤ 900000) (m : Nat) : ∀ (i : Nat) (o : List Int), o.length ≤ i → i ≤ (D10 n).length + 9 → (D10 n).length ≤ i + 9 * m →
    Ev (fun k => whetstoneref01_write.l0 k (D10 n) o (i : Int)) (o ++ D9 (n / 10 ^ i)) := by
  have hend : ∀ (i : Nat) (o : List Int), (D10 n).length ≤ i → Ev (fun k => whetstoneref01_write.l0 k (D10 n) o (i : Int)) (o ++ D9 (n / 10 ^ i)) := by
    intro i o h
    have := (D_len T2).1 h
    rw [Nat.div_eq_of_lt this, show D9 0 = [] from D_zero B, List.append_nil]
    refine Ev.step (f := fun _ => some _) (fun k => ?_) (Ev.now _)
    simp only [whetstoneref01_write.l0]
    rw [if_neg (by omega)]
  induction m with
  | zero => intro i o ho hi hm; exact hend i o (by omega)
  | succ m ih =>
    intro i o ho hi hm
    by_cases h : (D10 n).length ≤ i
    · exact hend i o h
    · obtain ⟨hi', hh⟩ : ∃ hi', hi' = min (i + 9) (D10 n).length := ⟨_, rfl⟩
      have hmn : wrap64 ((mn (wrap64 ((i : Int) + 9)) ((D10 n).length : Int)) - 1) = (hi' : Int) - 1 := by
        rw [w64 (x := (i : Int) + 9) (by omega) (by omega)]
        unfold mn
        split
        · rw [w64 (by omega) (by omega)]; omega
        · rw [w64 (by omega) (by omega)]; omega
      refine Ev.step (f := fun k => whetstoneref01_write.l1 k (D10 n) o (i : Int) ((0 : Nat) : Int) ((hi' : Int) - 1)) (fun k => ?_) ?_
      · simp only [whetstoneref01_write.l0]
        rw [if_pos (by omega), hmn]
        rfl
      · refine rwrite_l1 (D10 n) (D_dig T2 n) (by omega) o (by omega) i hi' (by omega) (by omega) (hi' - i) hi' 0 (by omega) (Nat.le_refl _) ?_ (Nat.pow_pos (by omega)) _ ?_
        · rw [List.drop_eq_nil_of_le (by simp; omega)]; rfl
        · intro y hy
          -- the chunk is the number's next digit to the base 10^9
          have e1 : ((D10 n).take hi').drop i = (D10 (n / 10 ^ i)).take 9 := by
            rw [List.drop_take, D_drop T2, hh]
            show (D T (n / T ^ i)).take _ = _
            by_cases hs : i + 9 ≤ (D10 n).length
            · rw [Nat.min_eq_left hs, show i + 9 - i = 9 by omega]
            · have hl : (D T (n / T ^ i)).length = (D10 n).length - i := by rw [← D_drop T2, List.length_drop]
              rw [List.take_of_length_le (by rw [hl]; omega), List.take_of_length_le (by show (D T (n / T ^ i)).length ≤ 9; rw [hl]; omega)]
          rw [e1, D_take T2] at hy
          have hy' : y = n / 10 ^ i % B := by exact_mod_cast hy
          have hne : n / 10 ^ i ≠ 0 := by
            intro h0
            have h1 : n < 10 ^ i := (Nat.div_eq_zero_iff_lt (Nat.pow_pos (by decide))).1 h0
            exact h ((D_len T2 (n := n) (k := i)).2 h1)
          have e2 : D9 (n / 10 ^ i) = ((n / 10 ^ i % B : Nat) : Int) :: D9 (n / 10 ^ (i + 9)) := by
            show D B _ = _
            rw [D_pos B2 hne, Nat.div_div_eq_div_mul, Nat.pow_add]
          rw [e2, hy', show o ++ ((n / 10 ^ i % B : Nat) : Int) :: D9 (n / 10 ^ (i + 9)) = (o ++ [((n / 10 ^ i % B : Nat) : Int)]) ++ D9 (n / 10 ^ (i + 9)) by simp, w64 (by omega) (by omega)]
          exact ih (i + 9) _ (by simp; omega) (by omega) (by omega)
theorem rwrite_f (n : Nat) (hn : (D10 n).length ≤ 900000) : Ev (fun k => whetstoneref01_write.f k (D10 n)) (D9 n) := by
  have := rwrite_l0 n hn (D10 n).length 0 [] (by simp) (by omega) (by omega)
  rw [Nat.pow_zero, Nat.div_one] at this
  exact this

theorem D10_len9 (n : Nat) : (D10 n).length ≤ 9 * (D9 n).length := by
  show (D T n).length ≤ _
  rw [D_len T2, Nat.pow_mul]
  exact (D_len B2 (n := n) (k := (D9 n).length)).1 (Nat.le_refl _)
theorem Row.len10 {N : Nat} {l : List Int} (h : Row N l) : (D10 (val l)).length ≤ 9 * (N + 1) := by
  have h1 := h.len
  have h2 := D10_len9 (val l)
  omega
theorem rAdd_l0 (s : List (List Int)) : ∀ (p : List (List Int)) (n : Nat), (∀ l ∈ s, Row 1000 l) → (D10 n).length + 9010 * s.length ≤ 800000 → p.length + s.length ≤ 1000 →
    Ev (fun k => whetstoneref01_Add.l0 k (p ++ s) (D10 n) (p.length : Int)) (D9 (n + sumV s)) := by
  induction s with
  | nil =>
    intro p n hs hn hp
    refine Ev.step (f := fun k => (whetstoneref01_write.f k (D10 n)).bind fun t => some t) (fun k => ?_) ?_
    · simp only [whetstoneref01_Add.l0]
      rw [if_neg (by simp)]
    · exact Ev.bind (rwrite_f n (by omega)) (Ev.now _)
  | cons l s ih =>
    intro p n hs hn hp
    have hl := hs l (by simp)
    simp only [List.length_cons] at hn hp
    refine Ev.step (f := fun k => (whetstoneref01_read.f k l).bind fun t153 => (whetstoneref01_plus.f k (D10 n) t153).bind fun t156 => whetstoneref01_Add.l0 k ((p ++ [l]) ++ s) t156 ((p ++ [l]).length : Int)) (fun k => ?_) ?_
    · simp only [whetstoneref01_Add.l0]
      rw [if_pos (by simp; omega), if_pos (by omega), rd_L2_nat, getD_append, w64 (by omega) (by omega)]
      simp
    · have h1 := hl.len10
      have h2 : (D10 (n + val l)).length ≤ (D10 n).length + (D10 (val l)).length + 1 := D_len_add T2 n (val l)
      have h3 := rread_f l (hl.le (by decide))
      have h4 := rplus_f (D10 n) (D10 (val l)) (D_dig T2 n) (D_dig T2 _) (by omega) (by omega)
      rw [D10_V, D10_V, Int.toNat_natCast, Int.toNat_natCast] at h4
      refine Ev.bind h3 (Ev.bind h4 ?_)
      have e : n + sumV (l :: s) = n + val l + sumV s := by rw [sumV, Nat.add_assoc]
      rw [e]
      exact ih (p ++ [l]) (n + val l) (fun y hy => hs y (by simp [hy])) (by omega) (by simp; omega)
theorem rAdd_f (L : List (List Int)) (hL : ∀ l ∈ L, Row 1000 l) (hn : L.length ≤ 20) : Ev (fun k => whetstoneref01_Add.f k L) (D9 (sumV L)) := by
  have := rAdd_l0 L [] 0 hL (by rw [show D10 0 = [] from D_zero T]; simp; omega) (by simp; omega)
  rw [Nat.zero_add, show D10 0 = [] from D_zero T] at this
  exact this
end Go.Proofs.YtnkkndninilciaaDoor.M
