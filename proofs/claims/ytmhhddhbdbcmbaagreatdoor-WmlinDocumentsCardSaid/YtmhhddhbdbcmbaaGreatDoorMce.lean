/- Parts of one proof. -/
import Derived.Test.YtmhhddhbdbcmbaaGreatDoorMcd
set_option linter.all false
namespace Go.Proofs.YtmhhddhbdbcmbaaGreatDoor.Ev
theorem Xw2 {P:Program} {g:Cfg} (hm:P.follows .mixedOrders=true) (hL:LibOk P g) (N n:Nat):FOk P g (evF P g N n) :=
 Xst hL (fun _ hF=>Xva hm hF) N n
end Go.Proofs.YtmhhddhbdbcmbaaGreatDoor.Ev
