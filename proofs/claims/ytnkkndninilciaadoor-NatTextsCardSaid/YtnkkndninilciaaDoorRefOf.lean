/- What the reference's Of computes: on a row of decimal digits without a leading nought the number, else false. -/
import Derived.Test.YtnkkndninilciaaDoorOf
import Derived.Test.YtnkkndninilciaaDoorX14
namespace Go.Proofs.YtnkkndninilciaaDoor.M
open Go.RowKit Go.Proofs.YtnkkndninilciaaDoor.X Go.Proofs.YtnkkndninilciaaDoorW.PrintWords Go.Proofs.YtnkkndninilciaaDoorW.PrintLast Go.Proofs.YtnkkndninilciaaDoorW.PrintMore

theorem rof_l0 (s : ByteArray) (hs : s.size ≤ 90000) (q : Nat) : ∀ (i : Nat) (a : List Int), i + q = s.size → a.length = s.size → Dig T a → (∀ j, j < s.size - i → a.getD j 0 = 0) →
    (∀ c ∈ s.data.toList.take i, isDig c) → V T a = (dv (s.data.toList.take i) : Int) * (T : Int) ^ (s.size - i) →
    Ev (fun k => whetstoneref01_Of.l0 k s a (i : Int)) (if allDig s.data.toList = true then (D9 (dv s.data.toList), true) else ([], false)) := by
  have hl := Lib.size_eq s
  induction q with
  | zero =>
    intro i a hi ha hd _ hg hv
    rw [List.take_of_length_le (by omega)] at hg hv
    rw [show s.size - i = 0 by omega, Int.pow_zero, Int.mul_one] at hv
    rw [if_pos (allDig_iff.2 hg)]
    refine Ev.step (f := fun k => (whetstoneref01_trim.f k a).bind fun t609 => ((whetstoneref01_write.f k t609).bind fun t612 => (some (t612, true)))) (fun k => ?_) ?_
    · simp only [whetstoneref01_Of.l0]
      rw [if_neg (by omega)]
    · have ht := rtrim_f a hd (by omega)
      rw [hv, Int.toNat_natCast] at ht
      have hlt : (D10 (dv s.data.toList)).length ≤ s.data.toList.length := (D_len T2).2 (dv_lt _ hg)
      exact Ev.bind ht (Ev.bind (rwrite_f _ (by omega)) (Ev.now _))
  | succ q ih =>
    intro i a hi ha hd hz hg hv
    have hil : i < s.data.toList.length := by omega
    have hb := bt_eq s i (by omega)
    obtain ⟨c, hc⟩ : ∃ c, c = s.data.toList[i]'hil := ⟨_, rfl⟩
    rw [← hc] at hb
    by_cases h1 : isDig c
    · have h1' := h1
      unfold isDig at h1'
      obtain ⟨p, hp⟩ : ∃ p, p = s.size - 1 - i := ⟨_, rfl⟩
      have ew : wrap64 ((wrap64 ((s.size : Int) - 1)) - (i : Int)) = (p : Int) := by
        rw [w64 (x := (s.size : Int) - 1) (by omega) (by omega), w64 (by omega) (by omega)]; omega
      have etake : s.data.toList.take (i + 1) = s.data.toList.take i ++ [c] := by rw [List.take_succ_eq_append_getElem hil, hc]
      refine Ev.step (f := fun k => whetstoneref01_Of.l0 k s (a.set p ((c.toNat : Int) - 48)) ((i + 1 : Nat) : Int)) (fun k => ?_) (ih (i + 1) _ (by omega) (by rw [List.length_set, ha]) (mem_set hd ⟨by omega, by show _ < (10 : Int); omega⟩ p) ?_ ?_ ?_)
      · simp only [whetstoneref01_Of.l0]
        rw [if_pos (by omega), if_pos (by omega), hb, if_neg (by omega), if_neg (by omega), ew, if_pos (by omega), if_pos (by omega), Int.toNat_natCast, Int.emod_eq_of_lt (by omega) (by omega), w64 (by omega) (by omega)]
        rfl
      · intro j hj
        rw [getD_set_ne _ (by omega)]
        exact hz j (by omega)
      · rw [etake]
        intro x hx
        rcases List.mem_append.1 hx with h | h
        · exact hg x h
        · rw [List.mem_singleton] at h; rw [h]; exact h1
      · rw [V_set a p _ (by omega), hz p (by omega), hv, etake, dv_append, dv_one, List.length_singleton, Nat.pow_one, show s.size - i = p + 1 by omega, show s.size - (i + 1) = p by omega, Int.pow_succ, Int.natCast_add, Int.natCast_mul, Int.add_mul, Int.sub_zero]
        have e1 : ((c.toNat - 48 : Nat) : Int) = (c.toNat : Int) - 48 := by omega
        rw [e1]
        generalize (T : Int) ^ p = w
        generalize ((dv (s.data.toList.take i) : Nat) : Int) = u
        show u * (w * 10) + w * ((c.toNat : Int) - 48) = u * 10 * w + ((c.toNat : Int) - 48) * w
        rw [Int.mul_comm w 10, ← Int.mul_assoc, Int.mul_comm w]
    · have e : allDig s.data.toList = false := allDig_no (fun h => h1 (h c (by rw [hc]; exact List.getElem_mem hil)))
      rw [e, if_neg (by simp)]
      unfold isDig at h1
      refine Ev.step (f := fun _ => some ([], false)) (fun k => ?_) (Ev.now _)
      simp only [whetstoneref01_Of.l0]
      rw [if_pos (by omega), if_pos (by omega), hb]
      by_cases h2 : (c.toNat : Int) < 48
      · rw [if_pos h2]
      · rw [if_neg h2, if_pos (by omega)]
theorem rOf_f (s : ByteArray) (hs : s.size ≤ 90000) : Ev (fun k => whetstoneref01_Of.f k s) (if okNum s = true then (D9 (dv s.data.toList), true) else ([], false)) := by
  have no : Ev (fun k => whetstoneref01_Of.j0 k s true) (([] : List Int), false) := Ev.step (f := fun _ => some ([], false)) (fun k => by simp only [whetstoneref01_Of.j0]; rw [if_pos trivial]) (Ev.now _)
  have tail : Ev (fun k => whetstoneref01_Of.j0 k s false) (if allDig s.data.toList = true then (D9 (dv s.data.toList), true) else ([], false)) := by
    have hz : ∀ j, (List.replicate s.size (0 : Int)).getD j 0 = 0 := fun j => (Fill.start (P := fun _ => True) trivial s.size).zero j (Nat.zero_le _)
    refine Ev.step (f := fun k => whetstoneref01_Of.l0 k s (List.replicate s.size 0) ((0 : Nat) : Int)) (fun k => ?_) (rof_l0 s hs s.size 0 _ (by omega) (by simp) (Fill.start (P := fun x => 0 ≤ x ∧ x < ((T : Nat) : Int)) (by decide) _).all (fun j _ => hz j) (by simp) (by rw [V_replicate]; simp [dv]))
    simp only [whetstoneref01_Of.j0]
    rw [if_neg (by simp), if_pos (by omega), if_pos (by omega), Int.toNat_natCast]
    rfl
  unfold whetstoneref01_Of.f
  by_cases h0 : s.size = 0
  · rw [show okNum s = false by simp [okNum, h0], if_neg (by simp)]
    exact Ev.congr (fun k => if_pos (by omega)) no
  · refine Ev.congr (fun k => if_neg (by omega)) ?_
    by_cases h1 : 1 < s.size
    · refine Ev.congr (fun k => if_pos (by omega)) (Ev.congr (fun k => if_pos (by omega)) ?_)
      by_cases h2 : bt s 0 = 48
      · rw [show okNum s = false by simp [okNum, h1, h2], if_neg (by simp), show (bt s 0 == 48) = true by simp [h2]]
        exact no
      · rw [show okNum s = allDig s.data.toList by simp [okNum, h0, h1, h2], show (bt s 0 == 48) = false by simp [h2]]
        exact tail
    · rw [show okNum s = allDig s.data.toList by simp [okNum, h0, h1]]
      exact Ev.congr (fun k => if_neg (by omega)) tail
end Go.Proofs.YtnkkndninilciaaDoor.M
