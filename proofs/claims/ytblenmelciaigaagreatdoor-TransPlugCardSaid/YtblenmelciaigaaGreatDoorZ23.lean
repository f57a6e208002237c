/-
  The document's: what keys may be.
-/
import Derived.Test.YtblenmelciaigaaGreatDoorZ13
import Derived.Test.YtblenmelciaigaaGreatDoorZ9
import Derived.Test.YtblenmelciaigaaGreatDoorZ10
import Derived.Test.YtblenmelciaigaaGreatDoorZ20
namespace Go.Gk
end Go.Gk
namespace Go.Proofs.YtblenmelciaigaaGreatDoor
open Go.RowKit Go.Gk

end Go.Proofs.YtblenmelciaigaaGreatDoor

/-
  The document's: leaves; what keys may be.
-/
namespace Go.Gk
open Go.RowKit
end Go.Gk
namespace Go.Proofs.YtblenmelciaigaaGreatDoor
open Go.RowKit Go.Gk

end Go.Proofs.YtblenmelciaigaaGreatDoor
