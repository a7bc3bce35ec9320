/- The modules that come in, told as the printed functions' contracts ask for them. -/
import Derived.Test.YtkanefpoibgknaaOpens
import Derived.Test.YtkanefpoibgknaaQ10
import Derived.Test.YtkanefpoibgknaaMoOk
namespace Go.Proofs.Ytkanefpoibgknaa.MO
open Go.RowKit Go.Proofs.YtkanefpoibgknaaW.PrintWords Go.Proofs.Ytkanefpoibgknaa.OP
theorem o86 (W : World) : Opens Q.k86 (fun s => (-9223372036854775808 ≤ s.f0 ∧ s.f0 ≤ 9223372036854775807) ∧ (-9223372036854775808 ≤ s.f1 ∧ s.f1 ≤ 9223372036854775807) ∧ s.f2.size ≤ maxLen) Try.prog W 86 :=
  opens_iso (f := fun x : Q.S86 => (x.f0, x.f1, x.f2)) (fun a => ⟨a.1, a.2.1, a.2.2⟩) (fun _ => rfl)
    (opens_struct Try.underlying86 (by kernel_rfl) (opens_more rfl (by kernel_rfl) (opens_int Try.underlying3) (opens_more rfl (by kernel_rfl) (opens_int Try.underlying3) (opens_last rfl (by kernel_rfl) (opens_string Try.underlying9)))))
theorem o46 (W : World) : Opens (Kd.slice 86 Q.k86) (fun xs => xs.length ≤ maxLen ∧ ∀ s ∈ xs, (-9223372036854775808 ≤ s.f0 ∧ s.f0 ≤ 9223372036854775807) ∧ (-9223372036854775808 ≤ s.f1 ∧ s.f1 ≤ 9223372036854775807) ∧ s.f2.size ≤ maxLen) Try.prog W 46 :=
  opens_slice Try.underlying46 (by kernel_rfl) (o86 W)
theorem o48 (W : World) : Opens Q.k48 (fun m => m.f0.length ≤ maxLen ∧ ∀ s ∈ m.f0, (-9223372036854775808 ≤ s.f0 ∧ s.f0 ≤ 9223372036854775807) ∧ (-9223372036854775808 ≤ s.f1 ∧ s.f1 ≤ 9223372036854775807) ∧ s.f2.size ≤ maxLen) Try.prog W 48 :=
  opens_iso (f := fun x : Q.S48 => x.f0) (fun a => ⟨a⟩) (fun _ => rfl) (opens_struct Try.underlying48 (by kernel_rfl) (opens_last rfl (by kernel_rfl) (o46 W)))
theorem o22 (W : World) : Opens (Kd.slice 48 Q.k48) (fun xs => xs.length ≤ maxLen ∧ ∀ m ∈ xs, m.f0.length ≤ maxLen ∧ ∀ s ∈ m.f0, (-9223372036854775808 ≤ s.f0 ∧ s.f0 ≤ 9223372036854775807) ∧ (-9223372036854775808 ≤ s.f1 ∧ s.f1 ≤ 9223372036854775807) ∧ s.f2.size ≤ maxLen) Try.prog W 22 :=
  opens_slice Try.underlying22 (by kernel_rfl) (o48 W)
end Go.Proofs.Ytkanefpoibgknaa.MO
