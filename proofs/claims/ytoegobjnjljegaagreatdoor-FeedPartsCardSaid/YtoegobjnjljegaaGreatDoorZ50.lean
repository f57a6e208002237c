/-
  Quotients of 128 bits, to the nearest.
-/
import Derived.Test.YtoegobjnjljegaaGreatDoorZ40
import Derived.Test.YtoegobjnjljegaaGreatDoorZ69
import Derived.Test.YtoegobjnjljegaaGreatDoorZ37
namespace Go.Proofs.YtoegobjnjljegaaGreatDoor
open Go.RowKit Go.Gk
open Go.RowKit Go.Gk
open Go.RowKit Go.Gk
open Go.RowKit Go.Gk
