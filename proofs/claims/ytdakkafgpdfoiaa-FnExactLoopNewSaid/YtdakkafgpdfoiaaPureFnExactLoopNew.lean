/- Proved: LoopNew of the program answers as the reference's; no condition beyond the statement's. -/
import Derived.Test.YtdakkafgpdfoiaaQ12
import Derived.KernelRfl
namespace Go.Proofs.Ytdakkafgpdfoiaa.Pure
open Go.RowKit Go.Proofs.Ytdakkafgpdfoiaa.Q Go.Proofs.YtdakkafgpdfoiaaW.PrintWords Go.Proofs.YtdakkafgpdfoiaaW.PrintLast
theorem FnExactLoopNew : laws_FnExactLoopNew.Pure := ⟨40, by kernel_rfl⟩
end Go.Proofs.Ytdakkafgpdfoiaa.Pure
