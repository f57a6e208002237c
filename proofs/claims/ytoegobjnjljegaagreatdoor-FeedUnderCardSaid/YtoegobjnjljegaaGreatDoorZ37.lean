/-
  Values: sums less others.
-/
import Derived.Test.YtoegobjnjljegaaGreatDoorZ20
import Derived.Test.YtoegobjnjljegaaGreatDoorZ35
namespace Go.Gk
open Go.RowKit
section
variable {P:Program} {ops:Array Oper} {rest:List Oper} {o:Oper} {a:Act} {Q:Exit→Act→World→Prop} {w:World}
end
end Go.Gk
namespace Go.Proofs.YtoegobjnjljegaaGreatDoor
open Go.RowKit Go.Gk
end Go.Proofs.YtoegobjnjljegaaGreatDoor
namespace Go.Gk
open Go.RowKit
theorem z0z {w:World} {base:Nat} {e:TypeId} {size n g:Nat} {cs:Array Value} (h:Blk w g e cs) (hb:base≤g) (hs:cs.size=n*size) (hn:n≤maxLen):w.ownsRow base e size (.slice (some ⟨g,0,none⟩) n n) n cs.toList:=
 ⟨by rw[Array.length_toList];exact hs,.inr ⟨g,n,cs,rfl,hb,h,Nat.le_refl _,hn,hs,by rw[List.take_of_length_le (by rw[Array.length_toList];omega)]⟩⟩
end Go.Gk
namespace Go.Proofs.YtoegobjnjljegaaGreatDoor
open Go.RowKit Go.Gk
