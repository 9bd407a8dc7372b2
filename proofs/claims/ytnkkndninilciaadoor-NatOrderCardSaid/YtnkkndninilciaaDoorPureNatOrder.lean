/- What is left of NatOrder, without Go: Cmp orders the numbers, sums keep the order, and texts order as the numbers do. -/
import Derived.Test.YtnkkndninilciaaDoorAwake
import Derived.Test.YtnkkndninilciaaDoorText
import Derived.Test.YtnkkndninilciaaDoorNatMore
import Derived.Test.YtnkkndninilciaaDoorX15
namespace Go.Proofs.YtnkkndninilciaaDoor.Pure
open Go.RowKit Go.Proofs.YtnkkndninilciaaDoor.M Go.Proofs.YtnkkndninilciaaDoor.X Go.Proofs.YtnkkndninilciaaDoorW.PrintWords Go.Proofs.YtnkkndninilciaaDoorW.PrintLast Go.Proofs.YtnkkndninilciaaDoorW.PrintMore
theorem sgn_cases (x y : Int) : (x < y ∧ sgn x y = -1) ∨ (x = y ∧ sgn x y = 0) ∨ (y < x ∧ sgn x y = 1) := by
  unfold sgn
  rcases Int.lt_trichotomy x y with h | h | h
  · exact .inl ⟨h, if_pos h⟩
  · exact .inr (.inl ⟨h, by rw [if_neg (by omega), if_neg (by omega)]⟩)
  · exact .inr (.inr ⟨h, by rw [if_neg (by omega), if_pos h]⟩)
/-- Digits of one length order as the numbers do. -/
theorem less_dv : ∀ (l r : List UInt8), l.length = r.length → (∀ c ∈ l, isDig c) → (∀ c ∈ r, isDig c) → Op.bytesLess l r = decide (dv l < dv r) := by
  intro l
  induction l with
  | nil =>
    intro r h _ _
    obtain rfl := List.eq_nil_of_length_eq_zero h.symm
    rfl
  | cons a l ih =>
    intro r h hl hr
    cases r with
    | nil => simp at h
    | cons b r =>
      have h' : l.length = r.length := by simpa using h
      have hl' : ∀ c ∈ l, isDig c := fun c hc => hl c (by simp [hc])
      have hr' : ∀ c ∈ r, isDig c := fun c hc => hr c (by simp [hc])
      have ha : isDig a := hl a (by simp)
      have hb : isDig b := hr b (by simp)
      have e1 : dv (a :: l) = dv [a] * 10 ^ l.length + dv l := dv_append [a] l
      have e2 : dv (b :: r) = dv [b] * 10 ^ r.length + dv r := dv_append [b] r
      have l1 := dv_lt l hl'
      have l2 := dv_lt r hr'
      unfold isDig at ha hb
      rw [Op.bytesLess, ih r h' hl' hr', e1, e2, dv_one, dv_one, ← h']
      rw [← h'] at l2
      generalize 10 ^ l.length = w at *
      rcases Nat.lt_trichotomy a.toNat b.toNat with g | g | g
      · have : a < b := UInt8.lt_iff_toNat_lt.2 g
        have hm : (a.toNat - 48 + 1) * w ≤ (b.toNat - 48) * w := Nat.mul_le_mul_right _ (by omega)
        rw [Nat.add_mul, Nat.one_mul] at hm
        rw [decide_eq_true this, Bool.true_or, decide_eq_true (by omega)]
      · obtain rfl : a = b := UInt8.toNat_inj.1 g
        have : ¬ a < a := fun h => by have := UInt8.lt_iff_toNat_lt.1 h; omega
        rw [decide_eq_false this, Bool.false_or, beq_self_eq_true, Bool.true_and]
        apply decide_eq_decide.2
        omega
      · have : ¬ a < b := fun h => by have := UInt8.lt_iff_toNat_lt.1 h; omega
        have hne : (a == b) = false := beq_eq_false_iff_ne.2 (fun h => by rw [h] at g; omega)
        have hm : (b.toNat - 48 + 1) * w ≤ (a.toNat - 48) * w := Nat.mul_le_mul_right _ (by omega)
        rw [Nat.add_mul, Nat.one_mul] at hm
        rw [decide_eq_false this, hne, Bool.false_or, Bool.false_and, decide_eq_false (by omega)]
/-- A longer text is a greater number. -/
theorem dd_len_lt {n m : Nat} (h : (Lib.decDigits n).length < (Lib.decDigits m).length) : n < m := by
  rcases Nat.lt_or_ge n m with h1 | h1
  · exact h1
  · exfalso
    obtain ⟨k, hk⟩ : ∃ k, (Lib.decDigits n).length = k + 1 := by
      have := List.length_pos_iff.2 (dd_ne n)
      exact ⟨(Lib.decDigits n).length - 1, by omega⟩
    have h2 := dv_lt (Lib.decDigits n) (dd_dig n)
    rw [dd_dv, hk] at h2
    have := dd_len (n := m) (k := k) (by omega)
    omega
theorem order_j0 (l0 l1 : List Int) (h0 : Row 40 l0) (h1 : Row 40 l1) : Ev (fun k => whetstonelaw01_NatOrder.j0 k l0 l1 (sgn (val l0) (val l1)) false) true := by
  have t0 := Text_f l0 (h0.le (by decide))
  have t1 := Text_f l1 (h1.le (by decide))
  have n0 := h0.len
  have hO := Of_txt (val l0) (by have := dd_len9 (val l0) 41 n0; omega)
  have hs := same_D (val l0) (val l0) (by omega)
  rw [decide_eq_true rfl] at hs
  have hT := Trim_f l0 (h0.le (by decide))
  have z0 := txt_size (val l0)
  have z1 := txt_size (val l1)
  have tl (n : Nat) : (txt n).toList = Lib.decDigits n := by
    have := Lib.extract_toList (txt n) 0 (txt n).size
    rw [ByteArray.extract_zero_size] at this
    rw [this, txt_list, List.drop_zero, txt_size]
    simp
  have main (hz : (Lib.decDigits (val l0)).length = (Lib.decDigits (val l1)).length) : (Op.bytesLess (txt (val l0)).toList (txt (val l1)).toList == decide (sgn (val l0) (val l1) < 0)) = true := by
    rw [tl, tl, less_dv _ _ hz (dd_dig _) (dd_dig _), dd_dv, dd_dv]
    rw [show decide (sgn (val l0 : Int) (val l1 : Int) < 0) = decide (val l0 < val l1) from decide_eq_decide.2 (by rw [sgn_lt]; omega)]
    exact beq_self_eq_true _
  refine Ev.step (f := fun k => _) (fun k => by simp only [whetstonelaw01_NatOrder.j0]; rw [if_neg (by simp)]) ?_
  refine Ev.bind t0 (Ev.bind t1 (Ev.bind hO (Ev.congr (fun k => if_pos rfl) (Ev.bind hT (Ev.bind hs (Ev.congr (fun k => if_pos rfl) ?_))))))
  rcases Nat.lt_trichotomy (Lib.decDigits (val l0)).length (Lib.decDigits (val l1)).length with g | g | g
  · have hlt := dd_len_lt g
    refine Ev.congr (fun k => if_pos (by omega)) (Ev.congr (fun k => if_neg ?_) (Ev.congr (fun k => if_neg (by omega)) (Ev.now _)))
    have := (sgn_lt (x := (val l0 : Int)) (y := (val l1 : Int))).2 (by omega)
    omega
  · refine Ev.congr (fun k => if_neg (by omega)) (Ev.congr (fun k => if_pos (by omega)) ?_)
    rw [main g]
    exact Ev.now _
  · exact Ev.congr (fun k => if_neg (by omega)) (Ev.congr (fun k => if_neg (by omega)) (Ev.now _))
theorem NatOrder : ∀ (l0 : List (Int)) (l1 : List (Int)) (l2 : List (Int)), (l0.length ≤ maxLen ∧ ∀ yl0 ∈ l0, (Lit.int .u32 yl0).wf = true) → (l1.length ≤ maxLen ∧ ∀ yl1 ∈ l1, (Lit.int .u32 yl1).wf = true) → (l2.length ≤ maxLen ∧ ∀ yl2 ∈ l2, (Lit.int .u32 yl2).wf = true) → ∃ k, whetstonelaw01_NatOrder.f k l0 l1 l2 = some true := by
  intro l0 l1 l2 ⟨_, w0⟩ ⟨_, w1⟩ ⟨_, w2⟩
  refine Ev.rounds (g := fun k => whetstonelaw01_NatOrder.f k l0 l1 l2) ?_
  unfold whetstonelaw01_NatOrder.f
  refine Ev.bind awake_f (Ev.congr (fun k => if_pos rfl) (Ev.bind (few_f [l0, l1, l2] (by unfold maxLen; simp)) ?_))
  by_cases hf : fewB [l0, l1, l2] = true
  · refine Ev.congr (fun k => if_pos hf) ?_
    simp [fewB] at hf
    have h0 : Row 40 l0 := ⟨fun x hx => u32_wf (w0 x hx), hf.1⟩
    have h1 : Row 40 l1 := ⟨fun x hx => u32_wf (w1 x hx), hf.2.1⟩
    have h2 : Row 40 l2 := ⟨fun x hx => u32_wf (w2 x hx), hf.2.2⟩
    have n0 := h0.len
    have n1 := h1.len
    have n2 := h2.len
    have H0 := h0.le (show 40 ≤ 10000 by decide)
    have H1 := h1.le (show 40 ≤ 10000 by decide)
    have H2 := h2.le (show 40 ≤ 10000 by decide)
    have c01 := Cmp_f l0 l1 H0 H1
    have c12 := Cmp_f l1 l2 H1 H2
    have c02 := Cmp_f l0 l2 H0 H2
    have c10 := Cmp_f l1 l0 H1 H0
    have a02 : Ev (fun k => nat_Add.f k [l0, l2]) (D9 (val l0 + val l2)) := by
      have := Add_f [l0, l2] (fun l hl => by simp at hl; rcases hl with rfl | rfl <;> assumption) (by simp)
      rwa [show sumV [l0, l2] = val l0 + val l2 by simp [sumV]] at this
    have a12 : Ev (fun k => nat_Add.f k [l1, l2]) (D9 (val l1 + val l2)) := by
      have := Add_f [l1, l2] (fun l hl => by simp at hl; rcases hl with rfl | rfl <;> assumption) (by simp)
      rwa [show sumV [l1, l2] = val l1 + val l2 by simp [sumV]] at this
    have b02 : (D9 (val l0 + val l2)).length ≤ (D9 (val l0)).length + (D9 (val l2)).length + 1 := D_len_add B2 _ _
    have b12 : (D9 (val l1 + val l2)).length ≤ (D9 (val l1)).length + (D9 (val l2)).length + 1 := D_len_add B2 _ _
    have cs := Cmp_f (D9 (val l0 + val l2)) (D9 (val l1 + val l2)) (Row.D (by omega)) (Row.D (by omega))
    rw [val_D, val_D] at cs
    have es : sgn ((val l0 + val l2 : Nat) : Int) ((val l1 + val l2 : Nat) : Int) = sgn (val l0) (val l1) := by
      rcases sgn_cases ((val l0 + val l2 : Nat) : Int) ((val l1 + val l2 : Nat) : Int) with ⟨g, e⟩ | ⟨g, e⟩ | ⟨g, e⟩ <;> rcases sgn_cases (val l0 : Int) (val l1 : Int) with ⟨g', e'⟩ | ⟨g', e'⟩ | ⟨g', e'⟩ <;> first | (rw [e, e']; done) | omega
    rw [es] at cs
    have t0 := Trim_f l0 H0
    have t1 := Trim_f l1 H1
    have hs := same_D (val l0) (val l1) (by omega)
    have eb : ((sgn (val l0) (val l1) == 0) != decide (val l0 = val l1)) = false := by
      rcases sgn_cases (val l0 : Int) (val l1 : Int) with ⟨g', e'⟩ | ⟨g', e'⟩ | ⟨g', e'⟩
      · rw [e', decide_eq_false (by omega)]; rfl
      · rw [e', decide_eq_true (by omega)]; rfl
      · rw [e', decide_eq_false (by omega)]; rfl
    have fin := order_j0 l0 l1 h0 h1
    refine Ev.bind c01 (Ev.bind c12 (Ev.bind c02 ?_))
    have r1 : ¬ sgn (val l0) (val l1) < -1 := by rcases sgn_cases (val l0 : Int) (val l1 : Int) with ⟨_, e'⟩ | ⟨_, e'⟩ | ⟨_, e'⟩ <;> omega
    have r2 : ¬ sgn (val l0) (val l1) > 1 := by rcases sgn_cases (val l0 : Int) (val l1 : Int) with ⟨_, e'⟩ | ⟨_, e'⟩ | ⟨_, e'⟩ <;> omega
    have r3 : sgn (val l1) (val l0) = wrap64 (-sgn (val l0) (val l1)) := by
      rcases sgn_cases (val l0 : Int) (val l1 : Int) with ⟨g, e⟩ | ⟨g, e⟩ | ⟨g, e⟩ <;> rcases sgn_cases (val l1 : Int) (val l0 : Int) with ⟨g', e'⟩ | ⟨g', e'⟩ | ⟨g', e'⟩ <;> first | (rw [e, e']; unfold wrap64; omega) | omega
    refine Ev.congr (fun k => if_neg r1) (Ev.congr (fun k => if_neg r2) (Ev.bind c10 (Ev.congr (fun k => if_pos r3) ?_)))
    have rest : Ev (fun k => (nat_Add.f k [l0, l2]).bind fun t637 => ((nat_Add.f k [l1, l2]).bind fun t643 => ((nat_Cmp.f k t637 t643).bind fun t646 => (if t646 = sgn (val l0) (val l1) then ((nat_Trim.f k l0).bind fun t647 => ((nat_Trim.f k l1).bind fun t650 => ((whetstonelaw01_same.f k t647 t650).bind fun t653 => (whetstonelaw01_NatOrder.j0 k l0 l1 (sgn (val l0) (val l1)) ((sgn (val l0) (val l1) == 0) != t653))))) else (whetstonelaw01_NatOrder.j0 k l0 l1 (sgn (val l0) (val l1)) true))))) true := by
      refine Ev.bind a02 (Ev.bind a12 (Ev.bind cs (Ev.congr (fun k => if_pos rfl) (Ev.bind t0 (Ev.bind t1 (Ev.bind hs ?_))))))
      rw [eb]
      exact fin
    by_cases g1 : sgn (val l0) (val l1) ≤ 0
    · refine Ev.congr (fun k => if_pos g1) ?_
      by_cases g2 : sgn (val l1) (val l2) ≤ 0
      · refine Ev.congr (fun k => if_pos g2) (Ev.congr (fun k => if_neg ?_) rest)
        rw [sgn_le] at g1 g2
        have := (sgn_le (x := (val l0 : Int)) (y := (val l2 : Int))).2 (by omega)
        omega
      · exact Ev.congr (fun k => if_neg g2) rest
    · exact Ev.congr (fun k => if_neg g1) rest
  · exact Ev.congr (fun k => if_neg hf) (Ev.now _)
end Go.Proofs.YtnkkndninilciaaDoor.Pure
