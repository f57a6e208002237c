/-
  Plain: a number of two words by one word, digit by digit of 32 bits, as Knuth has it. No program in sight.
-/
import Derived.Test.YtoegobjnjljegaaGreatDoorShelf
import Derived.Test.YtoegobjnjljegaaGreatDoorZ4
import Derived.Laws.Bits64b
namespace Go.Gk
section
variable {v1 v0 u d q r:Nat}
end
open Go.RowKit Go.Lib
section
variable {P:Program} {ops:Array Oper} {rest:List Oper} {o:Oper} {a:Act} {Q:Exit→Act→World→Prop} {w:World}
end
end Go.Gk
namespace Go.Proofs.YtoegobjnjljegaaGreatDoor
open Go.RowKit Go.Gk
