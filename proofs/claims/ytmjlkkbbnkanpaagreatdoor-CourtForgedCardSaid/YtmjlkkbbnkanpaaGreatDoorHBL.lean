/- The walk of CourtForged. -/
import Derived.Test.YtmjlkkbbnkanpaaGreatDoorHAA
import Derived.Test.YtmjlkkbbnkanpaaGreatDoorHBJ
import Derived.Test.YtmjlkkbbnkanpaaGreatDoorHBK
namespace Go.Proofs.YtmjlkkbbnkanpaaGreatDoor
open Go.RowKit
set_option maxRecDepth 100000
end Go.Proofs.YtmjlkkbbnkanpaaGreatDoor
