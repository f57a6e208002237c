/-
  The document's: what keys may be.
-/
import Derived.Test.YtdangnmeligfjaaGreatDoorZ13
import Derived.Test.YtdangnmeligfjaaGreatDoorZ9
import Derived.Test.YtdangnmeligfjaaGreatDoorZ10
import Derived.Test.YtdangnmeligfjaaGreatDoorZ20
namespace Go.Gk
end Go.Gk
namespace Go.Proofs.YtdangnmeligfjaaGreatDoor
open Go.RowKit Go.Gk
end Go.Proofs.YtdangnmeligfjaaGreatDoor
namespace Go.Gk
open Go.RowKit
end Go.Gk
namespace Go.Proofs.YtdangnmeligfjaaGreatDoor
open Go.RowKit Go.Gk
end Go.Proofs.YtdangnmeligfjaaGreatDoor
