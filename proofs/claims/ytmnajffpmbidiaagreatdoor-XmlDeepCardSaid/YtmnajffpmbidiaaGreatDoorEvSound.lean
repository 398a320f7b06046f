/- A plain reckoner of Go code over values without addresses: what it says holds of Go's calls. -/
import Derived.Test.YtmnajffpmbidiaaGreatDoorEvPan
namespace Go.Proofs.YtmnajffpmbidiaaGreatDoor.Ev
set_option linter.all false
theorem ev_sound {P : Program} {g : Cfg} (hm : P.follows .mixedOrders = true) (hL : LibOk P g) (N n : Nat) : FOk P g (evF P g N n) :=
  evF_sound hL (fun _ hF => drawA_sound hm hF) N n
#print axioms ev_sound
end Go.Proofs.YtmnajffpmbidiaaGreatDoor.Ev
