/- The finalizers that come in, told as the printed functions' contracts ask for them. -/
import Derived.Test.YtckninkpjdcfbaaOpens
import Derived.Test.YtckninkpjdcfbaaQ0
namespace Go.Proofs.Ytckninkpjdcfbaa.FR
open Go.RowKit Go.Proofs.YtckninkpjdcfbaaW.PrintWords Go.Proofs.Ytckninkpjdcfbaa.OP
theorem o70 (W : World) : Opens Q.k70 (fun s => (-9223372036854775808 ≤ s.f0 ∧ s.f0 ≤ 9223372036854775807) ∧ (-9223372036854775808 ≤ s.f1 ∧ s.f1 ≤ 9223372036854775807) ∧ True) Try.prog W 70 :=
  opens_iso (f := fun x : Q.S70 => (x.f0, x.f1, x.f2)) (fun a => ⟨a.1, a.2.1, a.2.2⟩) (fun _ => rfl)
    (opens_struct Try.underlying70 (by kernel_rfl) (opens_more rfl (by kernel_rfl) (opens_int Try.underlying3) (opens_more rfl (by kernel_rfl) (opens_int Try.underlying3) (opens_last rfl (by kernel_rfl) (opens_bool Try.underlying4)))))
theorem o49 (W : World) : Opens (Kd.slice 70 Q.k70) (fun xs => xs.length ≤ maxLen ∧ ∀ s ∈ xs, (-9223372036854775808 ≤ s.f0 ∧ s.f0 ≤ 9223372036854775807) ∧ (-9223372036854775808 ≤ s.f1 ∧ s.f1 ≤ 9223372036854775807) ∧ True) Try.prog W 49 :=
  opens_slice Try.underlying49 (by kernel_rfl) (o70 W)
end Go.Proofs.Ytckninkpjdcfbaa.FR
