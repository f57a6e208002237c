/-
  Plain: the greatest common divisor, by taking off twos.
-/
import Derived.Lib.TrailingZeros
namespace Go.Gk
end Go.Gk
