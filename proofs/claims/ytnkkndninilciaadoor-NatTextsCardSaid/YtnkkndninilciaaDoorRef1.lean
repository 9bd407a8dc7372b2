/- What the reference functions compute, in plain Lean over their printed forms: trim, plus, read, write, Add. -/
import Derived.Test.YtnkkndninilciaaDoorNat4
import Derived.Test.YtnkkndninilciaaDoorX8
import Derived.Test.YtnkkndninilciaaDoorX10
namespace Go.Proofs.YtnkkndninilciaaDoor.M
open Go.RowKit Go.Proofs.YtnkkndninilciaaDoor.X Go.Proofs.YtnkkndninilciaaDoorW.PrintWords Go.Proofs.YtnkkndninilciaaDoorW.PrintLast Go.Proofs.YtnkkndninilciaaDoorW.PrintMore

abbrev T : Nat := 10
theorem T2 : 2 ≤ T := by decide
/-- The row of a number to the base ten, as the reference has it. -/
abbrev D10 (n : Nat) : List Int := D T n
theorem Dig10 {l : List Int} (h : Dig T l) : ∀ x ∈ l, 0 ≤ x ∧ x < 10 := h
theorem D10_lt (n : Nat) : ∀ x ∈ D10 n, 0 ≤ x ∧ x < 10 := D_dig T2 n
theorem D10_V (n : Nat) : V T (D10 n) = n := V_D T2 n

theorem rtrim_l0 (o : List Int) : Dig T o → o.length ≤ 1000000000000 → Ev (fun k => whetstoneref01_trim.l0 k o) (D10 (V T o).toNat) := by
  induction h : o.length generalizing o with
  | zero =>
    intro _ _
    obtain rfl := List.eq_nil_of_length_eq_zero h
    refine Ev.step (f := fun _ => some []) (fun k => ?_) ?_
    · simp only [whetstoneref01_trim.l0]
      rw [if_neg (by simp)]
    · simp [V, D_zero]; exact Ev.now _
  | succ n ih =>
    intro hd hl
    have hne : o ≠ [] := by intro h0; subst h0; simp at h
    obtain ⟨p, x, rfl⟩ : ∃ p x, o = p ++ [x] := ⟨o.dropLast, o.getLast hne, (List.dropLast_concat_getLast hne).symm⟩
    have hp : p.length = n := by simpa using h
    have hd' := Dig.append.1 hd
    have e : wrap64 (((p ++ [(x : Int)]).length : Int) - 1) = (p.length : Int) := by
      rw [w64 (by simp; try omega) (by simp at h hl ⊢; omega)]; simp
    have e2 : rd (p ++ [x]) (p.length : Int) = x := by rw [rd_nat]; simp [List.getD]
    by_cases hx : x = 0
    · subst hx
      refine Ev.step (f := fun k => whetstoneref01_trim.l0 k p) (fun k => ?_) ?_
      · simp only [whetstoneref01_trim.l0]
        rw [if_pos (by simp), e, if_pos (by omega), if_pos (by simp; try omega), e2, if_pos rfl, if_pos (by simp; try omega), Int.toNat_natCast, List.take_left' rfl]
      · rw [V_snoc, Int.mul_zero, Int.add_zero]
        exact ih p hp hd'.1 (by simp at hl; omega)
    · refine Ev.step (f := fun _ => some (p ++ [x])) (fun k => ?_) ?_
      · simp only [whetstoneref01_trim.l0]
        rw [if_pos (by simp), e, if_pos (by omega), if_pos (by simp; try omega), e2, if_neg hx]
      · have e := D_of T2 hd (by simpa using hx)
        show Ev _ (D T _)
        rw [← e]
        exact Ev.now _
theorem rtrim_f (o : List Int) (h : Dig T o) (hl : o.length ≤ 1000000000000) : Ev (fun k => whetstoneref01_trim.f k o) (D10 (V T o).toNat) := rtrim_l0 o h hl

theorem rplus_end (a b o : List Int) (c : Int) (i : Nat) (ho : Dig T o) (hl : o.length ≤ 1000000000000) (h : c = 0) :
    Ev (fun k => whetstoneref01_plus.j1 k a b o c (i : Int) (decide (c > 0))) (D10 (V T o).toNat) := by
  refine Ev.step (f := fun k => (whetstoneref01_trim.f k o).bind fun t => some t) (fun k => ?_) (Ev.bind (rtrim_f o ho hl) (Ev.now _))
  simp only [whetstoneref01_plus.j1]
  rw [if_neg (by simp; omega)]
theorem rplus_l0 (a b : List Int) (ha : Dig T a) (hb : Dig T b) (h1 : a.length ≤ 1000000) (h2 : b.length ≤ 1000000) (q : Nat) : ∀ (o : List Int) (c : Int), 2000002 = o.length + q → (0 ≤ c ∧ c ≤ 1) → Dig T o → (a.length + 1 < o.length → b.length + 1 < o.length → c = 0) → (a.length < o.length → b.length < o.length → c = 0) →
    Ev (fun k => whetstoneref01_plus.l0 k a b o c (o.length : Int)) (D10 (V T o + (T : Int) ^ o.length * (c + V T (a.drop o.length) + V T (b.drop o.length))).toNat) := by
  induction q with
  | zero =>
    intro o c hq hc ho _ hz
    have hc0 := hz (by omega) (by omega)
    subst hc0
    rw [List.drop_eq_nil_of_le (by omega), List.drop_eq_nil_of_le (by omega)]
    simp only [V, Int.add_zero, Int.mul_zero]
    refine Ev.step (f := fun k => whetstoneref01_plus.j1 k a b o 0 (o.length : Int) (decide ((0 : Int) > 0))) (fun k => ?_) (rplus_end a b o 0 o.length ho (by omega) rfl)
    simp only [whetstoneref01_plus.l0]
    rw [if_neg (by omega), if_neg (by omega)]
  | succ q ih =>
    intro o c hq hc ho hz0 hz
    have hx := getD_mem (P := fun x => 0 ≤ x ∧ x < 10) (Dig10 ha) (by omega) o.length
    have hy := getD_mem (P := fun x => 0 ≤ x ∧ x < 10) (Dig10 hb) (by omega) o.length
    obtain ⟨s, hs⟩ : ∃ s, s = c + a.getD o.length 0 + b.getD o.length 0 := ⟨_, rfl⟩
    have key : V T o + (T : Int) ^ o.length * (c + V T (a.drop o.length) + V T (b.drop o.length)) = V T (o ++ [s % 10]) + (T : Int) ^ (o ++ [s % 10]).length * (s / 10 + V T (a.drop (o ++ [s % 10]).length) + V T (b.drop (o ++ [s % 10]).length)) := by
      rw [V_snoc, List.length_append, List.length_singleton, Int.pow_succ, Int.add_assoc (V T o), Int.mul_assoc, ← Int.mul_add, V_getD a o.length, V_getD b o.length]
      congr 2
      rw [Int.mul_add, Int.mul_add]
      show _ = s % 10 + ((10 : Int) * _ + _ + _)
      omega
    have ih' : (o.length < a.length ∨ o.length < b.length ∨ 0 < c) → Ev (fun k => whetstoneref01_plus.l0 k a b (o ++ [s % 10]) (s / 10) ((o ++ [s % 10]).length : Int)) (D10 (V T o + (T : Int) ^ o.length * (c + V T (a.drop o.length) + V T (b.drop o.length))).toNat) := by
      intro hgo
      rw [key]
      refine ih (o ++ [s % 10]) (s / 10) (by simp; omega) (by omega) (Dig.snoc ho (by omega) (by show _ < (10 : Int); omega)) ?_ ?_
      · simp only [List.length_append, List.length_singleton]
        intro g1 g2
        have e1 : a.getD o.length 0 = 0 := by rw [List.getD_eq_getElem?_getD, List.getElem?_eq_none (by omega)]; rfl
        have e2 : b.getD o.length 0 = 0 := by rw [List.getD_eq_getElem?_getD, List.getElem?_eq_none (by omega)]; rfl
        omega
      · simp only [List.length_append, List.length_singleton]
        intro g1 g2
        have e1 : a.getD o.length 0 = 0 := by rw [List.getD_eq_getElem?_getD, List.getElem?_eq_none (by omega)]; rfl
        have e2 : b.getD o.length 0 = 0 := by rw [List.getD_eq_getElem?_getD, List.getElem?_eq_none (by omega)]; rfl
        omega
    have ln : ((o ++ [s % 10]).length : Int) = wrap64 ((o.length : Int) + 1) := by rw [w64 (by omega) (by omega)]; simp
    have na : ¬ o.length < a.length → a.getD o.length 0 = 0 := fun h => by rw [List.getD_eq_getElem?_getD, List.getElem?_eq_none (by omega)]; rfl
    have nb : ¬ o.length < b.length → b.getD o.length 0 = 0 := fun h => by rw [List.getD_eq_getElem?_getD, List.getElem?_eq_none (by omega)]; rfl
    -- the step, once the way is taken
    have go : (o.length < a.length ∨ o.length < b.length ∨ 0 < c) → Ev (fun k => whetstoneref01_plus.j1 k a b o c (o.length : Int) true) (D10 (V T o + (T : Int) ^ o.length * (c + V T (a.drop o.length) + V T (b.drop o.length))).toNat) := by
      intro hgo
      refine Ev.step (fun k => ?_) (ih' hgo)
      simp only [whetstoneref01_plus.j1]
      rw [if_pos trivial, ln]
      by_cases g1 : o.length < a.length
      · rw [if_pos (by omega), if_pos (by omega)]
        by_cases g2 : o.length < b.length
        · rw [if_pos (by omega), if_pos (by omega), rd_nat, rd_nat, ← hs, Int.emod_eq_of_lt (a := s) (by omega) (by omega)]
        · rw [if_neg (by omega), if_pos (by omega), rd_nat, show c + a.getD o.length 0 = s by rw [hs, nb g2]; omega, Int.emod_eq_of_lt (a := s) (by omega) (by omega)]
      · rw [if_neg (by omega)]
        by_cases g2 : o.length < b.length
        · rw [if_pos (by omega), if_pos (by omega), if_pos (by omega), rd_nat, show c + b.getD o.length 0 = s by rw [hs, na g1]; omega, Int.emod_eq_of_lt (a := s) (by omega) (by omega)]
        · rw [if_neg (by omega), if_pos (by omega), show c = s by rw [hs, na g1, nb g2]; omega, tm _ (by omega), td _ (by omega), Int.emod_eq_of_lt (a := s / 10) (by omega) (by omega)]
    by_cases g1 : o.length < a.length
    · refine Ev.step (fun k => ?_) (go (.inl g1))
      simp only [whetstoneref01_plus.l0]
      rw [if_pos (by omega)]
    · by_cases g2 : o.length < b.length
      · refine Ev.step (fun k => ?_) (go (.inr (.inl g2)))
        simp only [whetstoneref01_plus.l0]
        rw [if_neg (by omega), if_pos (by omega)]
      · by_cases g3 : 0 < c
        · refine Ev.step (fun k => ?_) (go (.inr (.inr g3)))
          simp only [whetstoneref01_plus.l0]
          rw [if_neg (by omega), if_neg (by omega), decide_eq_true g3]
        · have hc0 : c = 0 := by omega
          subst hc0
          rw [List.drop_eq_nil_of_le (by omega), List.drop_eq_nil_of_le (by omega)]
          simp only [V, Int.add_zero, Int.mul_zero]
          refine Ev.step (f := fun k => whetstoneref01_plus.j1 k a b o 0 (o.length : Int) (decide ((0 : Int) > 0))) (fun k => ?_) (rplus_end a b o 0 o.length ho (by omega) rfl)
          simp only [whetstoneref01_plus.l0]
          rw [if_neg (by omega), if_neg (by omega)]
theorem rplus_f (a b : List Int) (ha : Dig T a) (hb : Dig T b) (h1 : a.length ≤ 1000000) (h2 : b.length ≤ 1000000) : Ev (fun k => whetstoneref01_plus.f k a b) (D10 ((V T a).toNat + (V T b).toNat)) := by
  have := rplus_l0 a b ha hb h1 h2 2000002 [] 0 (by simp) (by omega) (Dig.nil _) (by simp) (by simp)
  have e1 := V_nonneg (b := (T : Int)) (by decide) ha.nonneg
  have e2 := V_nonneg (b := (T : Int)) (by decide) hb.nonneg
  simp only [V, List.length_nil, List.drop_zero, Int.pow_zero, Int.one_mul, Int.zero_add, Int.ofNat_zero] at this
  rw [Int.toNat_add e1 e2] at this
  exact this

/-- One digit after the other. -/
theorem rread_l1 (a t : List Int) (i : Int) (q : Nat) : ∀ (o : List Int) (x : Nat), x < 10 ^ q → o.length + q ≤ 1000 → x < 4294967296 → 
    ∃ o' : List Int, o' = o ++ D10 x ∧ ∀ R, Ev (fun k => (whetstoneref01_plus.f k t o').bind fun u => whetstoneref01_read.l0 k a u (wrap64 (i - 1))) R → Ev (fun k => whetstoneref01_read.l1 k a t i o (x : Int)) R := by
  induction q with
  | zero =>
    intro o x hx ho _
    obtain rfl : x = 0 := by simpa using hx
    refine ⟨o ++ D10 0, rfl, fun R hR => ?_⟩
    rw [show D10 0 = [] from D_zero T, List.append_nil] at hR
    refine Ev.step (fun k => ?_) hR
    simp only [whetstoneref01_read.l1]
    rw [if_neg (by omega)]
  | succ q ih =>
    intro o x hx ho hx4
    refine ⟨o ++ D10 x, rfl, fun R hR => ?_⟩
    by_cases h0 : x = 0
    · subst h0
      rw [show D10 0 = [] from D_zero T, List.append_nil] at hR
      refine Ev.step (fun k => ?_) hR
      simp only [whetstoneref01_read.l1]
      rw [if_neg (by omega)]
    · obtain ⟨o', rfl, b⟩ := ih (o ++ [((x % 10 : Nat) : Int)]) (x / 10) (by rw [Nat.pow_succ] at hx; omega) (by simp; omega) (by omega)
      have e : D10 x = ((x % 10 : Nat) : Int) :: D10 (x / 10) := D_pos T2 h0
      rw [e, show o ++ ((x % 10 : Nat) : Int) :: D10 (x / 10) = (o ++ [((x % 10 : Nat) : Int)]) ++ D10 (x / 10) by simp] at hR
      refine Ev.step (fun k => ?_) (b R hR)
      simp only [whetstoneref01_read.l1]
      rw [if_pos (by omega), if_pos (by omega), tm _ (by omega), td _ (by omega), Int.emod_eq_of_lt (by omega) (by omega), Int.emod_eq_of_lt (b := 4294967296) (by omega) (by omega)]
      rfl
theorem D10_len_step (n x : Nat) (hx : x < 10000000000) : (D10 (x + B * n)).length ≤ (D10 n).length + 11 := by
  have h1 : (D10 n).length ≤ (D10 n).length := Nat.le_refl _
  have h2 := (D_len T2).1 h1
  show (D T _).length ≤ _
  rw [D_len T2, Nat.pow_add]
  have : (n + 1) * 100000000000 ≤ T ^ (D10 n).length * 100000000000 := Nat.mul_le_mul_right _ h2
  show _ < _ * 100000000000
  have e : B * n = 1000000000 * n := rfl
  omega
theorem rread_l0 (a : List Int) (ha : U32 a) (hn : a.length ≤ 10000) : ∀ (i : Nat) (n : Nat), i ≤ a.length → (n : Int) = V B (a.drop i) → (D10 n).length + 11 * i ≤ 900000 →
    Ev (fun k => whetstoneref01_read.l0 k a (D10 n) ((i : Int) - 1)) (D10 (val a)) := by
  intro i
  induction i with
  | zero =>
    intro n hi hv hl
    simp only [List.drop_zero] at hv
    have e : val a = n := by unfold val; omega
    rw [e]
    refine Ev.step (f := fun _ => some _) (fun k => ?_) (Ev.now _)
    simp only [whetstoneref01_read.l0]
    rw [if_neg (by omega)]
  | succ i ih =>
    intro n hi hv hl
    have hx := getD_mem (P := fun x => 0 ≤ x ∧ x < 4294967296) ha (by omega) i
    obtain ⟨x, hx'⟩ : ∃ x : Nat, a.getD i 0 = x := ⟨(a.getD i 0).toNat, by omega⟩
    rw [hx'] at hx
    have hxl : (D10 x).length ≤ 10 := (D_len T2).2 (by show x < 10000000000; omega)
    have hv2 : ((x + B * n : Nat) : Int) = V B (a.drop i) := by
      rw [V_getD a i, hx', ← hv]; simp
    have hl2 := D10_len_step n x (by omega)
    -- the zeros ahead
    obtain ⟨t, ht, htl, htv⟩ : ∃ t, Dig T t ∧ t.length ≤ (D10 n).length + 9 ∧ (V T t).toNat = B * n ∧ ∀ R, Ev (fun k => whetstoneref01_read.j1 k a t (i : Int)) R → Ev (fun k => whetstoneref01_read.l0 k a (D10 n) ((i : Int))) R := by
      by_cases h0 : (D10 n).length = 0
      · refine ⟨D10 n, D_dig T2 n, by omega, ?_, fun R hR => Ev.step (fun k => ?_) hR⟩
        · have := (D_len T2 (n := n) (k := 0)).1 (by show (D10 n).length ≤ 0; omega)
          have hn0 : n = 0 := by simpa using this
          subst hn0
          rw [show D10 0 = [] from D_zero T]
          rfl
        · simp only [whetstoneref01_read.l0]
          rw [if_pos (by omega), if_neg (by omega)]
      · refine ⟨List.replicate 9 0 ++ D10 n, Dig.append.2 ⟨(Fill.start (P := fun x => 0 ≤ x ∧ x < ((T : Nat) : Int)) (by decide) 9).all, D_dig T2 n⟩, (by simp; try omega), ?_, fun R hR => Ev.step (fun k => ?_) hR⟩
        · rw [V_append, V_replicate, List.length_replicate, D10_V, Int.zero_add]
          have : (T : Int) ^ 9 * (n : Int) = ((B * n : Nat) : Int) := by rw [Int.natCast_mul]; rfl
          rw [this]; rfl
        · simp only [whetstoneref01_read.l0]
          rw [if_pos (by omega), if_pos (by omega), if_pos (by omega)]
          simp only [Option.bind_some]
          rw [if_pos (by simp; omega)]
    obtain ⟨htv, hgo⟩ := htv
    rw [show ((i + 1 : Nat) : Int) - 1 = (i : Int) by omega]
    refine hgo _ ?_
    refine Ev.step (f := fun k => whetstoneref01_read.l1 k a t (i : Int) [] (x : Int)) (fun k => ?_) ?_
    · simp only [whetstoneref01_read.j1]
      rw [if_pos (by omega), if_pos (by omega), rd_nat, hx']
    obtain ⟨o', rfl, b⟩ := rread_l1 a t (i : Int) 10 [] x (by omega) (by simp) (by omega)
    refine b _ ?_
    rw [List.nil_append]
    have hp := rplus_f t (D10 x) ht (D_dig T2 x) (by omega) (by omega)
    rw [htv, D10_V, Int.toNat_natCast, Nat.add_comm (B * n)] at hp
    refine Ev.bind hp ?_
    rw [w64 (by omega) (by omega)]
    exact ih (x + B * n) (by omega) hv2 (by omega)
theorem rread_f (a : List Int) (ha : Row 10000 a) : Ev (fun k => whetstoneref01_read.f k a) (D10 (val a)) := by
  have h2 := ha.2
  have := rread_l0 a ha.1 h2 a.length 0 (Nat.le_refl _) (by rw [List.drop_length]; rfl) (by rw [show D10 0 = [] from D_zero T]; simp; omega)
  refine Ev.congr (fun k => ?_) this
  unfold whetstoneref01_read.f
  rw [w64 (by omega) (by omega), show D10 0 = [] from D_zero T]
end Go.Proofs.YtnkkndninilciaaDoor.M
