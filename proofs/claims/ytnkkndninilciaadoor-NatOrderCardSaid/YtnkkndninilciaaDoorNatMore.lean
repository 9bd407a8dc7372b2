/- What Trim, Cmp, Sub and Right compute, in plain Lean over their printed forms. -/
import Derived.Test.YtnkkndninilciaaDoorNat4
import Derived.Test.YtnkkndninilciaaDoorX11
namespace Go.Proofs.YtnkkndninilciaaDoor.M
open Go.RowKit Go.Proofs.YtnkkndninilciaaDoor.X Go.Proofs.YtnkkndninilciaaDoorW.PrintWords Go.Proofs.YtnkkndninilciaaDoorW.PrintLast Go.Proofs.YtnkkndninilciaaDoorW.PrintMore
theorem u32_wf {x : Int} (h : (Lit.int .u32 x).wf = true) : 0 ≤ x ∧ x < 4294967296 := by
  have h' : IntKind.u32.min ≤ x ∧ x ≤ IntKind.u32.max := by simpa [Lit.wf] using h
  rw [show IntKind.u32.min = 0 from rfl, show IntKind.u32.max = 4294967295 from rfl] at h'
  omega
theorem Trim_f (l : List Int) (h : Row 10000 l) : Ev (fun k => nat_Trim.f k l) (D9 (val l)) := by
  have h1 := h.len
  unfold nat_Trim.f
  exact Ev.bind (h.of (by omega)) (Ev.bind (row_f _ (by omega)) (Ev.now _))
theorem Cmp_f (l r : List Int) (h : Row 10000 l) (h' : Row 10000 r) : Ev (fun k => nat_Cmp.f k l r) (sgn (val l) (val r)) := by
  have h1 := h.len
  unfold nat_Cmp.f
  exact Ev.bind (h.of (by omega)) (Ev.bind (h'.of (by omega)) (Ev.bind (compare_f _ _ (by omega)) (Ev.now _)))
end Go.Proofs.YtnkkndninilciaaDoor.M
