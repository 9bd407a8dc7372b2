/- The seat: the program, and what each call asks of the world (the laid table of powers of ten). -/
import Derived.Test.YtbjgmnliholmpaaDoorE19
import Derived.Test.YtbjgmnliholmpaaDoorXWords
import Derived.KernelRfl
namespace Go.Proofs.YtbjgmnliholmpaaDoor.X
open Go Go.Proofs.YtbjgmnliholmpaaDoor.V Go.Proofs.YtbjgmnliholmpaaDoorW.PrintWords
theorem mixed : Tryd.prog.follows .mixedOrders = true := by kernel_rfl
noncomputable def seat : Seat := ⟨Tryd.prog, GW, fun h b => h.below b, mixed⟩
end Go.Proofs.YtbjgmnliholmpaaDoor.X
