/- A slice of slices of whole numbers that comes in, told as the printed functions' contracts ask for it. -/
import Derived.Test.YtckninkpjdcfbaaOpens
namespace Go.Proofs.Ytckninkpjdcfbaa.SR
open Go.RowKit Go.Proofs.YtckninkpjdcfbaaW.PrintWords Go.Proofs.Ytckninkpjdcfbaa.OP
def InSS (g : List (List Int)) : Prop := g.length ≤ maxLen ∧ ∀ l ∈ g, l.length ≤ maxLen
theorem oSS (W : World) : Opens (Kd.slice 24 (Kd.slice 3 (Kd.int .i64))) InSS Try.prog W 23 := by
  have h : Opens (Kd.slice 24 (Kd.slice 3 (Kd.int .i64))) (fun xs => xs.length ≤ maxLen ∧ ∀ x ∈ xs, x.length ≤ maxLen ∧ ∀ n ∈ x, -9223372036854775808 ≤ n ∧ n ≤ 9223372036854775807) Try.prog W 23 := opens_slice Try.underlying23 (by kernel_rfl) (opens_slice Try.underlying24 (by kernel_rfl) (opens_int Try.underlying3))
  exact h.mono fun _ h => ⟨h.1, fun l hl => (h.2 l hl).1⟩
theorem oS (W : World) : Opens (Kd.slice 3 (Kd.int .i64)) (fun x => x.length ≤ maxLen ∧ ∀ n ∈ x, -9223372036854775808 ≤ n ∧ n ≤ 9223372036854775807) Try.prog W 24 := opens_slice Try.underlying24 (by kernel_rfl) (opens_int Try.underlying3)
end Go.Proofs.Ytckninkpjdcfbaa.SR
