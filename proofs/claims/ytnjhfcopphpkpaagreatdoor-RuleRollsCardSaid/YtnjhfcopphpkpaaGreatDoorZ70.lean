/-
  Balances, plain; sums in two boxes.
-/
import Derived.Test.YtnjhfcopphpkpaaGreatDoorZ28
import Derived.Test.YtnjhfcopphpkpaaGreatDoorZ55
namespace Go.Gk
open Go.RowKit
theorem Row.apart {P:Nat→Prop} {w:World} {v:Value} {n size:Nat} {cs:List Value} (h:Row P w v n size cs) {z:Nat} {T:TypeId} {cz:Array Value} (hz:Blk w z T cz) (hne:∀o,¬∀(j:Nat) (u:Value),cs[j]?=some u→cz[o+j]?=some u):Row (fun g=>g≠z) w v n size cs:=by
 obtain⟨A,c,rfl,h1,h2,h3,h4,h5⟩:=h;refine⟨A,c,rfl,h1,h2,h3,h4,fun hn=>?_⟩;obtain⟨g,o,ha,⟨_,hlt⟩,hc⟩:=h5 hn;refine⟨g,o,ha,⟨fun e=>hne o fun j u hu=>?_,hlt⟩,hc⟩;have h6:=hc j u hu;rw[e,hz.cell (o+j)]at h6;exact h6
theorem Row.none {P P':Nat→Prop} {w:World} {v:Value} {size:Nat} {cs:List Value} (h:Row P w v 0 size cs):Row P' w v 0 size cs:=by
 obtain⟨A,c,rfl,h1,h2,h3,h4,h5⟩:=h;exact⟨A,c,rfl,h1,h2,h3,h4,fun hn=>absurd hn (by omega)⟩
end Go.Gk
namespace Go.Proofs.YtnjhfcopphpkpaaGreatDoor
open Go.RowKit Go.Gk
def SumAt2 (T:TypeId) (y1 y:Nat) (w:World) (x:Int):Prop:=∃sg D n c,Blk w y T #[.bool sg,.slice D n c]∧BigIs (fun g=>g≠y1∧g≠y) w (.agg #[.bool sg,.slice D n c]) x
theorem BigIs.beside {w w':World} {v:Value} {x:Int} {B F:Nat→Prop} (h:BigIs B w v x) (t:Tch F w w') (hn:∀g,B g→¬F g):BigIs B w' v x:=
 let⟨dv,e,hd⟩:=h;⟨dv,e,hd.keepTo t fun _ _ hg=>⟨hn _ hg,hg⟩⟩
theorem SumAt2.keep {T:TypeId} {y1 y:Nat} {w w':World} {x:Int} (h:SumAt2 T y1 y w x) (t:Tch (fun g=>g=y1) w w') (hy:y≠y1):SumAt2 T y1 y w' x:=
 let⟨sg,D,n,c,h1,h2⟩:=h;⟨sg,D,n,c,h1.keep t hy,h2.beside t fun _ hg=>hg.1⟩
theorem SumAt2.zero {T:TypeId} {y1 y:Nat} {w:World} (h:Blk w y T #[.bool false,.slice none 0 0]):SumAt2 T y1 y w 0:=
 ⟨false,none,0,0,h,⟨.slice none 0 0,rfl,by rw[show dg (0:Int).natAbs=[] by simp[dg_zero]];exact Row.nil _ _ _⟩⟩
end Go.Proofs.YtnjhfcopphpkpaaGreatDoor
namespace Go.Gk.V32
open Go.RowKit
def rcpD (b:Bks) (c:Rt6):Rcp×Int:=if c.1=3 then transOf b c else localOf b c
def Proper (b:Bks) (c:Rt6):Prop:=((c.1=3∧mayOf b c 3 3=0)∨((c.1=1∨c.1=2)∧mayOf b c 1 2=0))∧0≤c.2.2.2.1∧c.2.2.2.1≤5
theorem Proper.ok {b:Bks} {c:Rt6} (h:Proper b c):(rcpD b c).2=0:=by
 unfold rcpD
 rcases h.1 with⟨h1,h2⟩|⟨h1,h2⟩
 ·rw[if_pos h1];unfold transOf;rw[if_pos h2]
 ·rw[if_neg (by omega)];unfold localOf;rw[if_pos h2]
theorem accs_60 {b:Bks} (h:booksOK b=true):b.accs.length≤60∧3≤b.accs.length:=by
 unfold booksOK at h;simp only[Bool.and_eq_true]at h;obtain⟨⟨⟨⟨⟨_,h⟩,_⟩,_⟩,_⟩,_⟩:=h;unfold accsOK at h;simp only[Bool.and_eq_true,decide_eq_true_eq]at h;omega
