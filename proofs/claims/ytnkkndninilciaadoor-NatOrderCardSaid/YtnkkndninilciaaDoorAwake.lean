/- awake answers true: the closed example, by the functions' laws. -/
import Derived.Test.YtnkkndninilciaaDoorNat4
import Derived.Test.YtnkkndninilciaaDoorX6
import Derived.Test.YtnkkndninilciaaDoorX7
import Derived.Test.YtnkkndninilciaaDoorX9
namespace Go.Proofs.YtnkkndninilciaaDoor.M
open Go.RowKit Go.Proofs.YtnkkndninilciaaDoor.X Go.Proofs.YtnkkndninilciaaDoorW.PrintWords Go.Proofs.YtnkkndninilciaaDoorW.PrintLast Go.Proofs.YtnkkndninilciaaDoorW.PrintMore

theorem D9_1 {x : Nat} (h0 : 0 < x) (h1 : x < 1000000000) : D9 x = [(x : Int)] := by
  show D B x = _
  rw [D_pos B2 (by omega), Nat.mod_eq_of_lt h1, Nat.div_eq_of_lt h1, D_zero]
theorem D9_2 {x y : Nat} (h0 : 0 < y) (h1 : x < 1000000000) (h2 : y < 1000000000) : D9 (x + 1000000000 * y) = [(x : Int), (y : Int)] := by
  show D B _ = _
  rw [D_pos B2 (by omega), Nat.add_mul_mod_self_left, Nat.add_mul_div_left _ _ (by decide), Nat.mod_eq_of_lt h1, Nat.div_eq_of_lt h1, Nat.zero_add]
  exact congrArg _ (D9_1 h0 h2)
theorem awake_f : Ev (fun k => whetstonelaw01_awake.f k) true := by
  have r (l : List Int) (h : l.all (fun x => decide (0 ≤ x ∧ x < 4294967296)) = true) (h2 : l.length ≤ 2) : Row 10000 l :=
    ⟨fun x hx => by simpa using List.all_eq_true.1 h x hx, by omega⟩
  have e1 : val [0, 1] = 1000000000 := rfl
  have e2 : val [7] = 7 := rfl
  have e3 : sumV [[999999999], [1]] = 1000000000 := rfl
  have e4 : val [5, 1] = 1000000005 := rfl
  have h1 := DivMod_f [0, 1] [7] (r _ (by decide) (by simp)) (r _ (by decide) (by simp))
  rw [e1, e2, if_neg (by decide), show (1000000000 : Nat) / 7 = 142857142 by decide, show (1000000000 : Nat) % 7 = 6 by decide, D9_1 (by decide) (by decide), D9_1 (by decide) (by decide)] at h1
  have h2 := Add_f [[999999999], [1]] (fun l hl => by simp at hl; rcases hl with rfl | rfl <;> exact r _ (by decide) (by simp)) (by simp)
  rw [e3, show (1000000000 : Nat) = 0 + 1000000000 * 1 by decide, D9_2 (by decide) (by decide) (by decide)] at h2
  have h3 := (r [5, 1] (by decide) (by simp)).of (by decide)
  rw [e4, show (1000000005 : Nat) = 5 + 1000000000 * 1 by decide, D9_2 (by decide) (by decide) (by decide)] at h3
  unfold whetstonelaw01_awake.f
  refine Ev.bind h1 (Ev.congr (fun k => if_pos rfl) (Ev.bind h2 (Ev.bind (same_f _ _ (by simp)) (Ev.congr (fun k => if_pos (by decide)) (Ev.bind (same_f _ _ (by simp)) (Ev.congr (fun k => if_pos (by decide)) (Ev.bind (same_f _ _ (by simp)) (Ev.congr (fun k => if_pos (by decide)) ?_))))))))
  unfold nat_Text.f
  refine Ev.bind (a := (⟨#[49, 48, 48, 48, 48, 48, 48, 48, 48, 53]⟩ : ByteArray)) (Ev.bind h3 ?_) ?_
  · refine Ev.congr (fun k => ?_) (Ev.now _)
    decide +kernel
  · refine Ev.congr (fun k => ?_) (Ev.now _)
    decide +kernel
end Go.Proofs.YtnkkndninilciaaDoor.M
