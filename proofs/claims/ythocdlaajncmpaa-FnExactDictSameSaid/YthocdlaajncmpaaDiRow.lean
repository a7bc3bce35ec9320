/- The dictionaries that come in, told as the printed functions' contracts ask for them. -/
import Derived.Test.YthocdlaajncmpaaOpens
import Derived.Test.YthocdlaajncmpaaQ0
import Derived.Test.YthocdlaajncmpaaDiReady
namespace Go.Proofs.Ythocdlaajncmpaa.DI
open Go.RowKit Go.Proofs.YthocdlaajncmpaaW.PrintWords Go.Proofs.Ythocdlaajncmpaa.OP
theorem o47 (W : World) : Opens Q.k47 (fun s => s.f0.size ≤ maxLen) Try.prog W 47 :=
  (opens_iso (f := fun x : Q.S47 => (x.f0, x.f1, x.f2, x.f3)) (fun a => ⟨a.1, a.2.1, a.2.2.1, a.2.2.2⟩) (fun _ => rfl)
    (opens_struct Try.underlying47 (by kernel_rfl) (opens_more rfl (by kernel_rfl) (opens_string Try.underlying9) (opens_more rfl (by kernel_rfl) (opens_int Try.underlying3) (opens_more rfl (by kernel_rfl) (opens_int Try.underlying3) (opens_last rfl (by kernel_rfl) (opens_bool Try.underlying4))))))).mono fun _ h => h.1
theorem o25 (W : World) : Opens (Kd.pair (Kd.slice 3 (Kd.int .i64)) (Kd.slice 47 Q.k47)) (fun z => Ready z.1 z.2) Try.prog W 25 :=
  (opens_struct Try.underlying25 (by kernel_rfl) (opens_more rfl (by kernel_rfl) (opens_slice Try.underlying22 (by kernel_rfl) (opens_int Try.underlying3)) (opens_last rfl (by kernel_rfl) (opens_slice Try.underlying23 (by kernel_rfl) (o47 W))))).mono fun _ h => ⟨h.1.1, h.2.1, h.2.2⟩
end Go.Proofs.Ythocdlaajncmpaa.DI
