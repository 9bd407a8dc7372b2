/- What is left of NatTexts, without Go: a text reads as the reference reads it. -/
import Derived.Test.YtnkkndninilciaaDoorAwake
import Derived.Test.YtnkkndninilciaaDoorRefOf
import Derived.Test.YtnkkndninilciaaDoorX14
namespace Go.Proofs.YtnkkndninilciaaDoor.Pure
open Go.RowKit Go.Proofs.YtnkkndninilciaaDoor.M Go.Proofs.YtnkkndninilciaaDoor.X Go.Proofs.YtnkkndninilciaaDoorW.PrintWords Go.Proofs.YtnkkndninilciaaDoorW.PrintLast Go.Proofs.YtnkkndninilciaaDoorW.PrintMore
theorem NatTexts : ∀ (a0 : ByteArray), a0.size ≤ maxLen → ∃ k, whetstonelaw01_NatTexts.f k a0 = some true := by
  intro a0 _
  refine Ev.rounds (g := fun k => whetstonelaw01_NatTexts.f k a0) ?_
  unfold whetstonelaw01_NatTexts.f
  refine Ev.bind awake_f (Ev.congr (fun k => if_pos rfl) ?_)
  by_cases hs : a0.size ≤ 300
  · refine Ev.congr (fun k => if_neg (by omega)) (Ev.bind (Of_f a0 (by omega)) (Ev.bind (rOf_f a0 (by omega)) ?_))
    by_cases h : okNum a0 = true
    · rw [if_pos h]
      have hg : ∀ c ∈ a0.data.toList, isDig c := by
        simp only [okNum, Bool.and_eq_true] at h
        exact allDig_iff.1 h.2
      have h1 : (D9 (dv a0.data.toList)).length ≤ (D10 (dv a0.data.toList)).length := by
        have h2 := (D_len T2 (n := dv a0.data.toList)).1 (Nat.le_refl _)
        exact (D_len B2).2 (Nat.lt_of_lt_of_le h2 (Nat.pow_le_pow_left (by decide) _))
      have h3 : (D10 (dv a0.data.toList)).length ≤ a0.data.toList.length := (D_len T2).2 (dv_lt _ hg)
      have h4 := Lib.size_eq a0
      have := same_D (dv a0.data.toList) (dv a0.data.toList) (by omega)
      rw [decide_eq_true rfl] at this
      exact Ev.congr (fun k => if_pos rfl) (Ev.bind this (Ev.now _))
    · rw [if_neg h]
      have := same_f [] [] (by simp)
      rw [decide_eq_true rfl] at this
      exact Ev.congr (fun k => if_pos rfl) (Ev.bind this (Ev.now _))
  · exact Ev.congr (fun k => if_pos (by omega)) (Ev.now _)
end Go.Proofs.YtnkkndninilciaaDoor.Pure
