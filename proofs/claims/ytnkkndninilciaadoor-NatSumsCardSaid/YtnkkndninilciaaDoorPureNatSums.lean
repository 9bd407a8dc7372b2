/- What is left of NatSums, without Go: the sum and the product of rows are those of the reference. -/
import Derived.Test.YtnkkndninilciaaDoorAwake
import Derived.Test.YtnkkndninilciaaDoorRef3
import Derived.Test.YtnkkndninilciaaDoorX11
namespace Go.Proofs.YtnkkndninilciaaDoor.Pure
open Go.RowKit Go.Proofs.YtnkkndninilciaaDoor.M Go.Proofs.YtnkkndninilciaaDoor.X Go.Proofs.YtnkkndninilciaaDoorW.PrintWords Go.Proofs.YtnkkndninilciaaDoorW.PrintLast Go.Proofs.YtnkkndninilciaaDoorW.PrintMore
theorem u32_wf {x : Int} (h : (Lit.int .u32 x).wf = true) : 0 ≤ x ∧ x < 4294967296 := by
  have h' : IntKind.u32.min ≤ x ∧ x ≤ IntKind.u32.max := by simpa [Lit.wf] using h
  rw [show IntKind.u32.min = 0 from rfl, show IntKind.u32.max = 4294967295 from rfl] at h'
  omega
theorem NatSums : ∀ (l0 : List (List (Int))), (l0.length ≤ maxLen ∧ ∀ yl0 ∈ l0, (yl0.length ≤ maxLen ∧ ∀ yyl0 ∈ yl0, (Lit.int .u32 yyl0).wf = true)) → ∃ k, whetstonelaw01_NatSums.f k l0 = some true := by
  intro l0 ⟨hn, h⟩
  refine Ev.rounds (g := fun k => whetstonelaw01_NatSums.f k l0) ?_
  unfold whetstonelaw01_NatSums.f
  refine Ev.bind awake_f (Ev.congr (fun k => if_pos rfl) (Ev.bind (few_f l0 hn) ?_))
  by_cases hf : fewB l0 = true
  · rw [hf]
    simp only [fewB, Bool.and_eq_true, List.all_eq_true, decide_eq_true_eq] at hf
    obtain ⟨hf1, hf2⟩ := hf
    have hr : ∀ l ∈ l0, Row 40 l := fun l hl => ⟨fun x hx => u32_wf ((h l hl).2 x hx), hf1 l hl⟩
    have hs := Add_f l0 (fun l hl => (hr l hl).le (by decide)) (by omega)
    have hp := Mul_f l0 (fun l hl => (hr l hl).le (by decide)) (by omega)
    have hs' := rAdd_f l0 (fun l hl => (hr l hl).le (by decide)) (by omega)
    have hp' := rMul_f l0 (fun l hl => (hr l hl).le (by decide)) (by omega)
    have same (n : Nat) (hl : (D9 n).length ≤ 1000000000) : Ev (fun k => whetstonelaw01_same.f k (D9 n) (D9 n)) true := by
      have := same_D n n hl
      rwa [decide_eq_true rfl] at this
    have b (L : List (List Int)) (hL : ∀ l ∈ L, Row 40 l) : (D9 (sumV L)).length ≤ 42 * L.length ∧ (D9 (prodV L)).length ≤ 41 * L.length + 1 := by
      induction L with
      | nil => exact ⟨by show (D9 0).length ≤ _; rw [show D9 0 = [] from D_zero B]; simp, by show (D9 1).length ≤ _; rw [D9_1 (by decide) (by decide)]; simp⟩
      | cons l L ih =>
        obtain ⟨i1, i2⟩ := ih (fun l hl => hL l (by simp [hl]))
        have h1 := (hL l (by simp)).len
        have h2 : (D9 (val l + sumV L)).length ≤ (D9 (val l)).length + (D9 (sumV L)).length + 1 := D_len_add B2 _ _
        have h3 : (D9 (val l * prodV L)).length ≤ (D9 (val l)).length + (D9 (prodV L)).length := D_len_mul B2 _ _
        simp only [sumV, prodV, List.length_cons]
        exact ⟨by omega, by omega⟩
    obtain ⟨b1, b2⟩ := b l0 hr
    refine Ev.congr (fun k => if_pos rfl) (Ev.bind hs (Ev.bind hs' (Ev.bind (same _ (by omega)) (Ev.congr (fun k => if_pos rfl) (Ev.bind hp (Ev.bind hp' (Ev.bind (same _ (by omega)) (Ev.now _))))))))
  · exact Ev.congr (fun k => if_neg hf) (Ev.now _)
end Go.Proofs.YtnkkndninilciaaDoor.Pure
