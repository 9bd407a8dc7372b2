/- What is left of NatPowers, without Go: a number with a noughts behind it divides by ten to the a, exactly. -/
import Derived.Test.YtnkkndninilciaaDoorAwake
import Derived.Test.YtnkkndninilciaaDoorText
import Derived.Test.YtnkkndninilciaaDoorNatMore
import Derived.Test.YtnkkndninilciaaDoorX16
namespace Go.Proofs.YtnkkndninilciaaDoor.Pure
open Go.RowKit Go.Proofs.YtnkkndninilciaaDoor.M Go.Proofs.YtnkkndninilciaaDoor.X Go.Proofs.YtnkkndninilciaaDoorW.PrintWords Go.Proofs.YtnkkndninilciaaDoorW.PrintLast Go.Proofs.YtnkkndninilciaaDoorW.PrintMore
theorem data_append' (a b : ByteArray) : (a ++ b).data.toList = a.data.toList ++ b.data.toList := by
  obtain ⟨⟨l⟩⟩ := a
  obtain ⟨⟨r⟩⟩ := b
  simp
theorem dd_noughts (n : Nat) (h : n ≠ 0) (a : Nat) : Lib.decDigits (n * 10 ^ a) = Lib.decDigits n ++ List.replicate a 48 := by
  have := dd_split a n 0 h (Nat.pow_pos (by omega))
  rw [Nat.add_zero, padk_zero] at this
  exact this
theorem powers_l0 (l0 : List Int) (a1 : Nat) (h : Row 40 l0) (hn : val l0 ≠ 0) (ha : a1 ≤ 60) (q : Nat) : ∀ (i : Nat) (s : ByteArray), i + q = a1 → s.data.toList = Lib.decDigits (val l0 * 10 ^ i) → s.size ≤ 400 + i →
    Ev (fun k => whetstonelaw01_NatPowers.l0 k l0 (a1 : Int) s (D9 (10 ^ i)) (i : Int)) true := by
  have p10 : ∀ i, i ≤ 60 → (D9 (10 ^ i)).length ≤ 8 := fun i hi => (D_len B2).2 (by
    show 10 ^ i < 1000000000 ^ 8
    exact Nat.lt_of_le_of_lt (Nat.pow_le_pow_right (by omega) hi) (by decide))
  have e10 : D9 10 = [10] := D9_1 (by decide) (by decide)
  induction q with
  | zero =>
    intro i s hi hs hz
    obtain rfl : i = a1 := by omega
    have hlen := h.len
    have hsz : s = txt (val l0 * 10 ^ i) := WideShapes.bytes_inj (by rw [hs, txt_list])
    have hP := p10 i ha
    have hN : (D9 (val l0 * 10 ^ i)).length ≤ 60 := by
      have : (D9 (val l0 * 10 ^ i)).length ≤ (D9 (val l0)).length + (D9 (10 ^ i)).length := D_len_mul B2 _ _
      omega
    have h10 : 0 < 10 ^ i := Nat.pow_pos (by omega)
    have hOf := Of_txt (val l0 * 10 ^ i) (by have := dd_len9 (val l0 * 10 ^ i) 60 hN; omega)
    rw [← hsz] at hOf
    have hdm := DivMod_f (D9 (val l0 * 10 ^ i)) (D9 (10 ^ i)) (Row.D (by omega)) (Row.D (by omega))
    rw [val_D, val_D, if_neg (by omega), Nat.mul_div_cancel _ h10, Nat.mul_mod_left] at hdm
    have hm := Mul_f [l0, D9 (10 ^ i)] (fun l hl => by
      simp at hl
      rcases hl with rfl | rfl
      · exact h.le (by decide)
      · exact Row.D (by omega)) (by simp)
    rw [show prodV [l0, D9 (10 ^ i)] = val l0 * 10 ^ i by simp [prodV, val_D]] at hm
    have hs1 := same_D (val l0 * 10 ^ i) (val l0 * 10 ^ i) (by omega)
    have hs2 := same_D (val l0) (val l0) (by omega)
    rw [decide_eq_true rfl] at hs1 hs2
    have ht := Trim_f l0 (h.le (by decide))
    refine Ev.step (f := fun k => _) (fun k => by simp only [whetstonelaw01_NatPowers.l0]; rw [if_neg (by omega)]) ?_
    refine Ev.bind hOf (Ev.bind hdm (Ev.congr (fun k => if_pos rfl) (Ev.congr (fun k => if_pos rfl) (Ev.bind hm (Ev.bind hs1 (Ev.congr (fun k => if_pos rfl) (Ev.bind ht (Ev.bind hs2 (Ev.congr (fun k => if_pos rfl) ?_)))))))))
    rw [show D9 0 = [] from D_zero B]
    exact Ev.now _
  | succ q ih =>
    intro i s hi hs hz
    have hm := Mul_f [D9 (10 ^ i), [10]] (fun l hl => by
      simp at hl
      have := p10 i (by omega)
      rcases hl with rfl | rfl
      · exact Row.D (by omega)
      · rw [← e10]; exact Row.D (by rw [e10]; simp)) (by simp)
    rw [show prodV [D9 (10 ^ i), [10]] = 10 ^ (i + 1) by simp [prodV, val_D, Nat.pow_succ]; rw [← e10, val_D]] at hm
    have hs' : (s ++ (⟨#[48]⟩ : ByteArray)).data.toList = s.data.toList ++ [48] := data_append' s ⟨#[48]⟩
    refine Ev.step (f := fun k => (nat_Mul.f k [D9 (10 ^ i), [10]]).bind fun t722 => whetstonelaw01_NatPowers.l0 k l0 (a1 : Int) (s ++ (⟨#[48]⟩ : ByteArray)) t722 ((i + 1 : Nat) : Int)) (fun k => ?_) (Ev.bind hm (ih (i + 1) _ (by omega) ?_ ?_))
    · simp only [whetstonelaw01_NatPowers.l0]
      rw [if_pos (by omega), if_pos (by omega), w64 (by omega) (by omega)]
      rfl
    · rw [hs', hs, dd_noughts _ hn, dd_noughts _ hn, List.append_assoc, List.replicate_succ']
    · have e1 := Lib.size_eq s
      rw [Lib.size_eq, hs', List.length_append, List.length_singleton]
      omega
theorem NatPowers : ∀ (l0 : List (Int)) (a1 : Int), (l0.length ≤ maxLen ∧ ∀ yl0 ∈ l0, (Lit.int .u32 yl0).wf = true) → (Lit.int .i64 a1).wf = true → ∃ k, whetstonelaw01_NatPowers.f k l0 a1 = some true := by
  intro l0 a1 ⟨_, hw⟩ _
  refine Ev.rounds (g := fun k => whetstonelaw01_NatPowers.f k l0 a1) ?_
  have yes : Ev (fun k => whetstonelaw01_NatPowers.j0 k l0 a1 true) true := Ev.step (f := fun _ => some true) (fun k => by simp only [whetstonelaw01_NatPowers.j0]; rw [if_pos trivial]) (Ev.now _)
  unfold whetstonelaw01_NatPowers.f
  refine Ev.bind awake_f (Ev.congr (fun k => if_pos rfl) (Ev.bind (few_f [l0] (by unfold maxLen; simp)) ?_))
  by_cases hf : fewB [l0] = true
  · refine Ev.congr (fun k => if_pos hf) ?_
    simp [fewB] at hf
    have h : Row 40 l0 := ⟨fun x hx => u32_wf (hw x hx), hf⟩
    have hlen := h.len
    by_cases h0 : a1 < 0
    · exact Ev.congr (fun k => if_pos h0) yes
    · refine Ev.congr (fun k => if_neg h0) ?_
      by_cases h1 : a1 > 60
      · exact Ev.congr (fun k => if_pos h1) yes
      · refine Ev.congr (fun k => if_neg h1) (Ev.bind (Trim_f l0 (h.le (by decide))) ?_)
        by_cases hn : val l0 = 0
        · have : (((D9 (val l0)).length : Int) == 0) = true := by
            have := D9_nil.2 hn
            simp [this]
          rw [this]
          exact yes
        · have hne : ¬ (D9 (val l0)).length = 0 := fun h' => hn (D9_nil.1 h')
          have : (((D9 (val l0)).length : Int) == 0) = false := beq_eq_false_iff_ne.2 (by omega)
          rw [this]
          obtain ⟨a, rfl⟩ : ∃ a : Nat, a1 = a := ⟨a1.toNat, by omega⟩
          have ht := Text_f l0 (h.le (by decide))
          have hp := powers_l0 l0 a h hn (by omega) a 0 (txt (val l0)) (by omega) (by rw [txt_list, Nat.pow_zero, Nat.mul_one]) (by rw [txt_size]; have := dd_len9 (val l0) 41 hlen; omega)
          rw [Nat.pow_zero, show D9 1 = [1] from D9_1 (by decide) (by decide)] at hp
          refine Ev.step (f := fun k => (nat_Text.f k l0).bind fun t712 => whetstonelaw01_NatPowers.l0 k l0 (a : Int) t712 [1] ((0 : Nat) : Int)) (fun k => ?_) (Ev.bind ht hp)
          simp only [whetstonelaw01_NatPowers.j0]
          rw [if_neg (by simp)]
          rfl
  · exact Ev.congr (fun k => if_neg hf) yes
end Go.Proofs.YtnkkndninilciaaDoor.Pure
