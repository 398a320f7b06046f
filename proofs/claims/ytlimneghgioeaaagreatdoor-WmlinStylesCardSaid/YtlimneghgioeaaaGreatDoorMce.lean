/- Parts of one proof. -/
import Derived.Test.YtlimneghgioeaaaGreatDoorMcd
set_option linter.all false
namespace Go.Proofs.YtlimneghgioeaaaGreatDoor.Ev
theorem ev_sound {P : Program} {g : Cfg} (hm : P.follows .mixedOrders = true) (hL : LibOk P g) (N n : Nat) : FOk P g (evF P g N n) :=
  evF_sound hL (fun _ hF => drawA_sound hm hF) N n
end Go.Proofs.YtlimneghgioeaaaGreatDoor.Ev
