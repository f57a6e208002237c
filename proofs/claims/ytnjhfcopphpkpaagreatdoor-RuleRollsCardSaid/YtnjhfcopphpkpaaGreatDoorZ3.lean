/-
  Plain theorems over whatever program: owned rows and maps under 'Tch'; append from whatever source; cut rows. No program in sight.
-/
import Derived.Test.YtnjhfcopphpkpaaGreatDoorZ2
import Derived.Laws.Rows
import Derived.Maps.OwnSet
import Derived.Maps.Ext
import Derived.Deep.AppendLies
import Derived.Maps.AppendAt
import Derived.Deep.MidRow
namespace Go.Gk
open Go Go.RowKit
section
variable {F:Nat→Prop} {w w':World} {base:Nat} {e:TypeId} {size:Nat} {v:Value} {n:Nat} {xs:List Value}
theorem own_lt (h:w.ownsRow base e size v n xs) {g:Nat} (hg:v.ownBlock=some g):g<w.heap.size:=(h.lt g hg).2
theorem Tch.own (t:Tch F w w') (h:w.ownsRow base e size v n xs) (hn:∀g,v.ownBlock=some g→¬F g):w'.ownsRow base e size v n xs:=by
 refine⟨h.1,?_⟩
 rcases h.2 with hn'|⟨g,cap,cur,rfl,hb,hgg,rest⟩
 ·exact .inl hn'
 ·exact .inr ⟨g,cap,cur,rfl,hb,(t.block g (Array.getElem?_eq_some_iff.1 hgg).1 (hn g rfl)).trans hgg,rest⟩
theorem own_base (h:w.ownsRow base e size v n xs):w.ownsRow 0 e size v n xs:=by
 refine⟨h.1,?_⟩
 rcases h.2 with hn'|⟨g,cap,cur,hv,hb,r⟩
 ·exact .inl hn'
 ·exact .inr ⟨g,cap,cur,hv,Nat.zero_le _,r⟩
theorem own_form (h:w.ownsRow base e size v n xs):∃A c,v=.slice A n c∧n≤c∧c≤maxLen∧(A=none∨∃g,A=some ⟨g,0,none⟩):=by
 rcases h.2 with⟨hv,hn⟩|⟨g,cap,cur,hv,_,_,h1,h2,_⟩
 ·subst hn;exact⟨none,0,hv,Nat.le_refl _,Nat.zero_le _,.inl rfl⟩
 ·exact⟨_,cap,hv,h1,h2,.inr ⟨g,rfl⟩⟩
theorem own_cell (h:w.ownsRow base e size v n xs) {g:Nat} (hg:v.ownBlock=some g) {j:Nat} {u:Value} (hu:xs[j]?=some u):w.cell? ⟨g,j,none⟩=some u:=by
 have:=h.cells hg j u hu;rwa [Addr.add_lit,Nat.zero_add]at this
theorem own_block (h:w.ownsRow base e size v n xs) (hn:0<n):∃g c,v=.slice (some ⟨g,0,none⟩) n c:=by
 rcases h.2 with⟨_,h0⟩|⟨g,cap,cur,hv,_⟩
 ·omega
 ·exact⟨g,cap,hv⟩
theorem own_head {A:Option Addr} {c:Nat} (h:w.ownsRow base e size (.slice A n c) n xs) (hn:0<n):∃g,A=some ⟨g,0,none⟩:=by
 obtain⟨g,cc,hv⟩:=own_block h hn;injection hv with e1;exact⟨g,e1⟩
theorem within_cell {W:World} {a:Addr} {u:Value} (h:W.cell? a=some u) (hn:¬F a.block):∀b L (p:Within (Tch F) W.drew b L),p.w.cell? a=some u:=fun _ _ p=>p.hr.cell_some (by exact h) hn
def Blk (w:World) (g:Nat) (t:TypeId) (cs:Array Value):Prop:=w.heap[g]?=some (.cells cs t (0,0))
theorem Blk.lt {g:Nat} {t:TypeId} {cs:Array Value} (h:Blk w g t cs):g<w.heap.size:=(Array.getElem?_eq_some_iff.1 h).1
theorem Blk.cell {g:Nat} {t:TypeId} {cs:Array Value} (h:Blk w g t cs) (i:Nat):w.cell? ⟨g,i,none⟩=cs[i]?:=cell_of_row w g i cs t (0,0) h
theorem Blk.at0 {g:Nat} {t:TypeId} {x0:Value} {r:List Value} (h:Blk w g t (x0::r).toArray):w.cell? ⟨g,0,none⟩=some x0:=h.cell 0
theorem Blk.at1 {g:Nat} {t:TypeId} {x0 x1:Value} {r:List Value} (h:Blk w g t (x0::x1::r).toArray):w.cell? ⟨g,1,none⟩=some x1:=h.cell 1
theorem Blk.at2 {g:Nat} {t:TypeId} {x0 x1 x2:Value} {r:List Value} (h:Blk w g t (x0::x1::x2::r).toArray):w.cell? ⟨g,2,none⟩=some x2:=h.cell 2
theorem Blk.at3 {g:Nat} {t:TypeId} {x0 x1 x2 x3:Value} {r:List Value} (h:Blk w g t (x0::x1::x2::x3::r).toArray):w.cell? ⟨g,3,none⟩=some x3:=h.cell 3
theorem Blk.at4 {g:Nat} {t:TypeId} {x0 x1 x2 x3 x4:Value} {r:List Value} (h:Blk w g t (x0::x1::x2::x3::x4::r).toArray):w.cell? ⟨g,4,none⟩=some x4:=h.cell 4
theorem Blk.at5 {g:Nat} {t:TypeId} {x0 x1 x2 x3 x4 x5:Value} {r:List Value} (h:Blk w g t (x0::x1::x2::x3::x4::x5::r).toArray):w.cell? ⟨g,5,none⟩=some x5:=h.cell 5
theorem Blk.at6 {g:Nat} {t:TypeId} {x0 x1 x2 x3 x4 x5 x6:Value} {r:List Value} (h:Blk w g t (x0::x1::x2::x3::x4::x5::x6::r).toArray):w.cell? ⟨g,6,none⟩=some x6:=h.cell 6
theorem Blk.at7 {g:Nat} {t:TypeId} {x0 x1 x2 x3 x4 x5 x6 x7:Value} {r:List Value} (h:Blk w g t (x0::x1::x2::x3::x4::x5::x6::x7::r).toArray):w.cell? ⟨g,7,none⟩=some x7:=h.cell 7
theorem Blk.at8 {g:Nat} {t:TypeId} {x0 x1 x2 x3 x4 x5 x6 x7 x8:Value} {r:List Value} (h:Blk w g t (x0::x1::x2::x3::x4::x5::x6::x7::x8::r).toArray):w.cell? ⟨g,8,none⟩=some x8:=h.cell 8
theorem Blk.at9 {g:Nat} {t:TypeId} {x0 x1 x2 x3 x4 x5 x6 x7 x8 x9:Value} {r:List Value} (h:Blk w g t (x0::x1::x2::x3::x4::x5::x6::x7::x8::x9::r).toArray):w.cell? ⟨g,9,none⟩=some x9:=h.cell 9
theorem Blk.at10 {g:Nat} {t:TypeId} {x0 x1 x2 x3 x4 x5 x6 x7 x8 x9 x10:Value} {r:List Value} (h:Blk w g t (x0::x1::x2::x3::x4::x5::x6::x7::x8::x9::x10::r).toArray):w.cell? ⟨g,10,none⟩=some x10:=h.cell 10
theorem Blk.at11 {g:Nat} {t:TypeId} {x0 x1 x2 x3 x4 x5 x6 x7 x8 x9 x10 x11:Value} {r:List Value} (h:Blk w g t (x0::x1::x2::x3::x4::x5::x6::x7::x8::x9::x10::x11::r).toArray):w.cell? ⟨g,11,none⟩=some x11:=h.cell 11
theorem Blk.at12 {g:Nat} {t:TypeId} {x0 x1 x2 x3 x4 x5 x6 x7 x8 x9 x10 x11 x12:Value} {r:List Value} (h:Blk w g t (x0::x1::x2::x3::x4::x5::x6::x7::x8::x9::x10::x11::x12::r).toArray):w.cell? ⟨g,12,none⟩=some x12:=h.cell 12
theorem Blk.at13 {g:Nat} {t:TypeId} {x0 x1 x2 x3 x4 x5 x6 x7 x8 x9 x10 x11 x12 x13:Value} {r:List Value} (h:Blk w g t (x0::x1::x2::x3::x4::x5::x6::x7::x8::x9::x10::x11::x12::x13::r).toArray):w.cell? ⟨g,13,none⟩=some x13:=h.cell 13
theorem Blk.f2 {g:Nat} {t:TypeId} {x0 x1:Value} {r:List Value} (h:Blk w g t (x0::x1::r).toArray):w.cell? ⟨g,0,none⟩=some x0∧w.cell? ⟨g,1,none⟩=some x1:=⟨h.cell 0,h.cell 1⟩
theorem Blk.f3 {g:Nat} {t:TypeId} {x0 x1 x2:Value} {r:List Value} (h:Blk w g t (x0::x1::x2::r).toArray):w.cell? ⟨g,0,none⟩=some x0∧w.cell? ⟨g,1,none⟩=some x1∧w.cell? ⟨g,2,none⟩=some x2:=⟨h.cell 0,h.cell 1,h.cell 2⟩
theorem Blk.f4 {g:Nat} {t:TypeId} {x0 x1 x2 x3:Value} {r:List Value} (h:Blk w g t (x0::x1::x2::x3::r).toArray):w.cell? ⟨g,0,none⟩=some x0∧w.cell? ⟨g,1,none⟩=some x1∧w.cell? ⟨g,2,none⟩=some x2∧w.cell? ⟨g,3,none⟩=some x3:=⟨h.cell 0,h.cell 1,h.cell 2,h.cell 3⟩
theorem Blk.f5 {g:Nat} {t:TypeId} {x0 x1 x2 x3 x4:Value} {r:List Value} (h:Blk w g t (x0::x1::x2::x3::x4::r).toArray):w.cell? ⟨g,0,none⟩=some x0∧w.cell? ⟨g,1,none⟩=some x1∧w.cell? ⟨g,2,none⟩=some x2∧w.cell? ⟨g,3,none⟩=some x3∧w.cell? ⟨g,4,none⟩=some x4:=⟨h.cell 0,h.cell 1,h.cell 2,h.cell 3,h.cell 4⟩
theorem Blk.f6 {g:Nat} {t:TypeId} {x0 x1 x2 x3 x4 x5:Value} {r:List Value} (h:Blk w g t (x0::x1::x2::x3::x4::x5::r).toArray):w.cell? ⟨g,0,none⟩=some x0∧w.cell? ⟨g,1,none⟩=some x1∧w.cell? ⟨g,2,none⟩=some x2∧w.cell? ⟨g,3,none⟩=some x3∧w.cell? ⟨g,4,none⟩=some x4∧w.cell? ⟨g,5,none⟩=some x5:=⟨h.cell 0,h.cell 1,h.cell 2,h.cell 3,h.cell 4,h.cell 5⟩
theorem Blk.f7 {g:Nat} {t:TypeId} {x0 x1 x2 x3 x4 x5 x6:Value} {r:List Value} (h:Blk w g t (x0::x1::x2::x3::x4::x5::x6::r).toArray):w.cell? ⟨g,0,none⟩=some x0∧w.cell? ⟨g,1,none⟩=some x1∧w.cell? ⟨g,2,none⟩=some x2∧w.cell? ⟨g,3,none⟩=some x3∧w.cell? ⟨g,4,none⟩=some x4∧w.cell? ⟨g,5,none⟩=some x5∧w.cell? ⟨g,6,none⟩=some x6:=⟨h.cell 0,h.cell 1,h.cell 2,h.cell 3,h.cell 4,h.cell 5,h.cell 6⟩
theorem Blk.f8 {g:Nat} {t:TypeId} {x0 x1 x2 x3 x4 x5 x6 x7:Value} {r:List Value} (h:Blk w g t (x0::x1::x2::x3::x4::x5::x6::x7::r).toArray):w.cell? ⟨g,0,none⟩=some x0∧w.cell? ⟨g,1,none⟩=some x1∧w.cell? ⟨g,2,none⟩=some x2∧w.cell? ⟨g,3,none⟩=some x3∧w.cell? ⟨g,4,none⟩=some x4∧w.cell? ⟨g,5,none⟩=some x5∧w.cell? ⟨g,6,none⟩=some x6∧w.cell? ⟨g,7,none⟩=some x7:=⟨h.cell 0,h.cell 1,h.cell 2,h.cell 3,h.cell 4,h.cell 5,h.cell 6,h.cell 7⟩
theorem Blk.f9 {g:Nat} {t:TypeId} {x0 x1 x2 x3 x4 x5 x6 x7 x8:Value} {r:List Value} (h:Blk w g t (x0::x1::x2::x3::x4::x5::x6::x7::x8::r).toArray):w.cell? ⟨g,0,none⟩=some x0∧w.cell? ⟨g,1,none⟩=some x1∧w.cell? ⟨g,2,none⟩=some x2∧w.cell? ⟨g,3,none⟩=some x3∧w.cell? ⟨g,4,none⟩=some x4∧w.cell? ⟨g,5,none⟩=some x5∧w.cell? ⟨g,6,none⟩=some x6∧w.cell? ⟨g,7,none⟩=some x7∧w.cell? ⟨g,8,none⟩=some x8:=⟨h.cell 0,h.cell 1,h.cell 2,h.cell 3,h.cell 4,h.cell 5,h.cell 6,h.cell 7,h.cell 8⟩
theorem Blk.f10 {g:Nat} {t:TypeId} {x0 x1 x2 x3 x4 x5 x6 x7 x8 x9:Value} {r:List Value} (h:Blk w g t (x0::x1::x2::x3::x4::x5::x6::x7::x8::x9::r).toArray):w.cell? ⟨g,0,none⟩=some x0∧w.cell? ⟨g,1,none⟩=some x1∧w.cell? ⟨g,2,none⟩=some x2∧w.cell? ⟨g,3,none⟩=some x3∧w.cell? ⟨g,4,none⟩=some x4∧w.cell? ⟨g,5,none⟩=some x5∧w.cell? ⟨g,6,none⟩=some x6∧w.cell? ⟨g,7,none⟩=some x7∧w.cell? ⟨g,8,none⟩=some x8∧w.cell? ⟨g,9,none⟩=some x9:=⟨h.cell 0,h.cell 1,h.cell 2,h.cell 3,h.cell 4,h.cell 5,h.cell 6,h.cell 7,h.cell 8,h.cell 9⟩
theorem Blk.f11 {g:Nat} {t:TypeId} {x0 x1 x2 x3 x4 x5 x6 x7 x8 x9 x10:Value} {r:List Value} (h:Blk w g t (x0::x1::x2::x3::x4::x5::x6::x7::x8::x9::x10::r).toArray):w.cell? ⟨g,0,none⟩=some x0∧w.cell? ⟨g,1,none⟩=some x1∧w.cell? ⟨g,2,none⟩=some x2∧w.cell? ⟨g,3,none⟩=some x3∧w.cell? ⟨g,4,none⟩=some x4∧w.cell? ⟨g,5,none⟩=some x5∧w.cell? ⟨g,6,none⟩=some x6∧w.cell? ⟨g,7,none⟩=some x7∧w.cell? ⟨g,8,none⟩=some x8∧w.cell? ⟨g,9,none⟩=some x9∧w.cell? ⟨g,10,none⟩=some x10:=⟨h.cell 0,h.cell 1,h.cell 2,h.cell 3,h.cell 4,h.cell 5,h.cell 6,h.cell 7,h.cell 8,h.cell 9,h.cell 10⟩
theorem Blk.f12 {g:Nat} {t:TypeId} {x0 x1 x2 x3 x4 x5 x6 x7 x8 x9 x10 x11:Value} {r:List Value} (h:Blk w g t (x0::x1::x2::x3::x4::x5::x6::x7::x8::x9::x10::x11::r).toArray):w.cell? ⟨g,0,none⟩=some x0∧w.cell? ⟨g,1,none⟩=some x1∧w.cell? ⟨g,2,none⟩=some x2∧w.cell? ⟨g,3,none⟩=some x3∧w.cell? ⟨g,4,none⟩=some x4∧w.cell? ⟨g,5,none⟩=some x5∧w.cell? ⟨g,6,none⟩=some x6∧w.cell? ⟨g,7,none⟩=some x7∧w.cell? ⟨g,8,none⟩=some x8∧w.cell? ⟨g,9,none⟩=some x9∧w.cell? ⟨g,10,none⟩=some x10∧w.cell? ⟨g,11,none⟩=some x11:=⟨h.cell 0,h.cell 1,h.cell 2,h.cell 3,h.cell 4,h.cell 5,h.cell 6,h.cell 7,h.cell 8,h.cell 9,h.cell 10,h.cell 11⟩
theorem Blk.f13 {g:Nat} {t:TypeId} {x0 x1 x2 x3 x4 x5 x6 x7 x8 x9 x10 x11 x12:Value} {r:List Value} (h:Blk w g t (x0::x1::x2::x3::x4::x5::x6::x7::x8::x9::x10::x11::x12::r).toArray):w.cell? ⟨g,0,none⟩=some x0∧w.cell? ⟨g,1,none⟩=some x1∧w.cell? ⟨g,2,none⟩=some x2∧w.cell? ⟨g,3,none⟩=some x3∧w.cell? ⟨g,4,none⟩=some x4∧w.cell? ⟨g,5,none⟩=some x5∧w.cell? ⟨g,6,none⟩=some x6∧w.cell? ⟨g,7,none⟩=some x7∧w.cell? ⟨g,8,none⟩=some x8∧w.cell? ⟨g,9,none⟩=some x9∧w.cell? ⟨g,10,none⟩=some x10∧w.cell? ⟨g,11,none⟩=some x11∧w.cell? ⟨g,12,none⟩=some x12:=⟨h.cell 0,h.cell 1,h.cell 2,h.cell 3,h.cell 4,h.cell 5,h.cell 6,h.cell 7,h.cell 8,h.cell 9,h.cell 10,h.cell 11,h.cell 12⟩
theorem Blk.f14 {g:Nat} {t:TypeId} {x0 x1 x2 x3 x4 x5 x6 x7 x8 x9 x10 x11 x12 x13:Value} {r:List Value} (h:Blk w g t (x0::x1::x2::x3::x4::x5::x6::x7::x8::x9::x10::x11::x12::x13::r).toArray):w.cell? ⟨g,0,none⟩=some x0∧w.cell? ⟨g,1,none⟩=some x1∧w.cell? ⟨g,2,none⟩=some x2∧w.cell? ⟨g,3,none⟩=some x3∧w.cell? ⟨g,4,none⟩=some x4∧w.cell? ⟨g,5,none⟩=some x5∧w.cell? ⟨g,6,none⟩=some x6∧w.cell? ⟨g,7,none⟩=some x7∧w.cell? ⟨g,8,none⟩=some x8∧w.cell? ⟨g,9,none⟩=some x9∧w.cell? ⟨g,10,none⟩=some x10∧w.cell? ⟨g,11,none⟩=some x11∧w.cell? ⟨g,12,none⟩=some x12∧w.cell? ⟨g,13,none⟩=some x13:=⟨h.cell 0,h.cell 1,h.cell 2,h.cell 3,h.cell 4,h.cell 5,h.cell 6,h.cell 7,h.cell 8,h.cell 9,h.cell 10,h.cell 11,h.cell 12,h.cell 13⟩
theorem Blk.frozen {g:Nat} {t:TypeId} {cs:Array Value} (h:Blk w g t cs) (i:Nat):w.frozen? ⟨g,i,none⟩=false:=by unfold Blk at h;simp[World.frozen?,h]
theorem Blk.new (w:World) (t:TypeId) (cs:Array Value):Blk (w.alloc (.cells cs t)) w.heap.size t cs:=heap_alloc_new w _
theorem Blk.keep {g:Nat} {t:TypeId} {cs:Array Value} (h:Blk w g t cs) (k:Tch F w w') (hn:¬F g):Blk w' g t cs:=(k.block g h.lt hn).trans h
theorem Blk.alloc {g:Nat} {t:TypeId} {cs:Array Value} (h:Blk w g t cs) (o:Obj):Blk (w.alloc o) g t cs:=(Below.heap_alloc w o g h.lt).trans h
theorem Blk.set_ {g:Nat} {t:TypeId} {cs:Array Value} (h:Blk w g t cs) (i:Nat) (u:Value):Blk (w.setCell ⟨g,i,none⟩ u) g t (cs.setIfInBounds i u):=by
 unfold Blk at h⊢;simp[World.setCell,Array.getElem?_modify,h]
theorem Blk.far {g:Nat} {t:TypeId} {cs:Array Value} (h:Blk w g t cs) {p:Addr} (hp:g≠p.block) (u:Value):Blk (w.setCell p u) g t cs:=(Below.heap_setCell w p u g hp).trans h
end
structure RowTy (P:Program) (t e:TypeId) (z:Value) (size bytes:Nat):Prop where
 und:P.underlying t=some (.slice e)
 info:(P.info? e).map (fun i=>(i.zero,i.size,i.bytes))=some (some z,size,bytes)
 cells:z.cells.size=size
 pos:0<size
structure Src (w:World) (ao:Option Addr) (m c size:Nat) (news:List Value):Prop where
 len:news.length=m*size
 nil:ao=none→m=0∧c=0
 cell:∀a,ao=some a→∀j u,news[j]?=some u→w.cell? (a.add j)=some u
theorem Src.keep {w w':World} {F:Nat→Prop} {ao:Option Addr} {m c size:Nat} {news:List Value} (h:Src w ao m c size news) (t:Tch F w w') (hn:∀a,ao=some a→¬F a.block):Src w' ao m c size news:=
 ⟨h.len,h.nil,fun a ha j u hu=>by
  have:=h.cell a ha j u hu;refine t.cell_some this ?_;have hb:(a.add j).block=a.block:=by unfold Addr.add;split<;>rfl
  rw[hb];exact hn a ha⟩
theorem Src.own {w:World} {base:Nat} {e:TypeId} {size n c:Nat} {A:Option Addr} {xs:List Value} (h:w.ownsRow base e size (.slice A n c) n xs):Src w A n c size xs:=by
 refine⟨h.1,fun ha=>?_,fun a ha j u hu=>?_⟩
 ·rcases h.2 with⟨hv,hn⟩|⟨g,cap,cur,hv,_⟩
  ·injection hv with e1 e2 e3;exact⟨hn,e3⟩
  ·injection hv with e1;rw[ha]at e1;cases e1
 ·subst ha
  rcases h.2 with⟨hv,hn⟩|⟨g,cap,cur,hv,_⟩
  ·injection hv with e1;cases e1
  ·have hh:=hv;injection hv with e1;injection e1 with e1;subst e1;exact h.cells (g:=g) rfl j u hu
theorem Src.one {w:World} {g:Nat} {size:Nat} {news:List Value} (hl:news.length=size) (h:∀j u,news[j]?=some u→w.cell? ⟨g,j,none⟩=some u):Src w (some ⟨g,0,none⟩) 1 1 size news:=
 ⟨by omega,(fun h=>by cases h),fun a ha j u hu=>by
  obtain rfl:=Option.some.inj ha;rw[Addr.add_lit,Nat.zero_add]
  exact h j u hu⟩
section
variable {P:Program} (w:World)
theorem run_append {t e:TypeId} {z:Value} {size bytes:Nat} (T:RowTy P t e z size bytes) (ty:TypeId) {v:Value} {n:Nat} {xs:List Value} (hown:w.ownsRow 0 e size v n xs)
 {ao:Option Addr} {m c:Nat} {news:List Value} (hs:Src w ao m c size news) (h1:∀u∈news,u.oneCell'=true)
 (h63:n+m≤maxLen) (hbytes:(n+m)*bytes≤140737488355328):
 ∃v' w',(Builtin.append_ #[t,t] ty #[v,.slice ao m c]).run P w=.ok v' w'∧w'.ownsRow 0 e size v' (n+m) (xs++news)∧w.grownBy w' v.ownBlock∧(∀g,v'.ownBlock=some g→v.ownBlock=some g∨w.heap.size≤g):=by
 obtain⟨i,hi,hz,hsize,hby⟩:=info_parts T.info
 cases ao with
 |none=>
  obtain⟨rfl,rfl⟩:=hs.nil rfl;have hn:news=[]:=List.eq_nil_of_length_eq_zero (by simpa using hs.len);subst hn;exact⟨v,w,run_append_owned_none (P:=P) w 0 t ty e i size T.und hi v n xs hown,by simpa using hown,World.grownBy.refl _ _,fun g hg=>.inl hg⟩
 |some a=>
  obtain⟨v',w',hr,h2,h3,_,h5⟩:=run_append_own_at (P:=P) w 0 t ty e i z size bytes T.und hi hz hsize hby T.cells T.pos v n xs hown a m c news hs.len (hs.cell a rfl) h1 h63 hbytes (Nat.zero_le _);refine⟨v',w',hr,h2,h3,fun g hg=>?_⟩;rcases h5 with h5|h5
  ·exact .inl (h5▸hg)
  ·rw[h5]at hg;cases hg;exact .inr (Nat.le_refl _)
theorem wpList_append {ops:Array Oper} {rest:List Oper} {o:Oper} {a:Act} {Q:Exit→Act→World→Prop} (hgd:o.guard=none) (s x:Operand) (t:TypeId)
 (ho:o.op=.call {callee:=.builtin .append,args:= #[s,x],argTypes:= #[t,t]})
 {e:TypeId} {z:Value} {size bytes:Nat} (T:RowTy P t e z size bytes) {v:Value} {n:Nat} {xs:List Value} (hown:w.ownsRow 0 e size v n xs) (hv:a.eval s=v)
 {ao:Option Addr} {m c:Nat} {news:List Value} (hs:Src w ao m c size news) (hx:a.eval x=.slice ao m c) (h1:∀u∈news,u.oneCell'=true)
 (h63:n+m≤maxLen) (hbytes:(n+m)*bytes≤140737488355328)
 (h:∀v' w',w'.ownsRow 0 e size v' (n+m) (xs++news)→w.grownBy w' v.ownBlock→(∀g,v'.ownBlock=some g→v.ownBlock=some g∨w.heap.size≤g)→wpList P ops Q rest (a.put o.dst v') w'):wpList P ops Q (o::rest) a w:=
 wpList_plain hgd fun K hK=>by
  obtain⟨v',w',hr,h2,h3,h4⟩:=run_append w T o.type hown hs h1 h63 hbytes;unfold Oper.wp execOp;simp only[ho,resolve,invoke,builtin,Sem.run_bind,Sem.run_pure,Result.andThen_ok,List.map_toArray,List.map_cons,List.map_nil,hv,hx,hr];exact hK _ _ (h v' w' h2 h3 h4)
end
section
variable {P:Program} {ops:Array Oper} {rest:List Oper} {o:Oper} {a:Act} {w:World} {Q:Exit→Act→World→Prop}
theorem apd {e t:TypeId} {z:Value} {size bytes base:Nat} (T:RowTy P t e z size bytes) {v:Value} {n:Nat} {xs:List Value} (hown:w.ownsRow base e size v n xs) {ao:Option Addr} {m c:Nat} {news:List Value} (hs:Src w ao m c size news) (h1:∀u∈news,u.oneCell'=true)
 (h:∀v' w',w'.ownsRow 0 e size v' (n+m) (xs++news)→w.grownBy w' v.ownBlock→(∀g,v'.ownBlock=some g→v.ownBlock=some g∨w.heap.size≤g)→wpList P ops Q rest (a.put o.dst v') w') {s x:Operand} (ho:o.op=.call {callee:=.builtin .append,args:= #[s,x],argTypes:= #[t,t]}:=by rfl) (hgd:o.guard=none:=by rfl)
 (hv:a.eval s=v:=by rfl) (hx:a.eval x=.slice ao m c:=by rfl) (h63:n+m≤maxLen:=by unfold maxLen;omega) (hbytes:(n+m)*bytes≤140737488355328:=by omega):wpList P ops Q (o::rest) a w:=
 wpList_append _ hgd s x t ho T (own_base hown) hv hs hx h1 h63 hbytes h
end
theorem exS:(∀(n:Nat) (Q:Exit→Act→World→Prop) (a:Act) (w:World),Exit.inBlock n Q .ret a w=Q .ret a w)∧(∀(f:Act→World→Prop) (Q:Exit→Act→World→Prop) (a:Act) (w:World),Exit.then f Q .ret a w=Q .ret a w)∧∀(Q:Exit→Act→World→Prop) (a:Act) (w:World),Exit.noGoto Q .ret a w=Q .ret a w:=
 ⟨fun _ _ _ _=>rfl,fun _ _ _ _=>rfl,fun _ _ _=>rfl⟩
def isRow (P:Program) (ty:TypeId):Bool:=match P.underlying ty with |some (.struct _)=>true|some (.array _ _)=>true|_=>false
theorem isRow_some {P:Program} {ty:TypeId} (h:isRow P ty=true):∃d,P.underlying ty=some d∧(match d with | .struct _| .array _ _=>true|_=>false)=true:=by
 unfold isRow at h;split at h
 ·next e=>exact⟨_,e,rfl⟩
 ·next e=>exact⟨_,e,rfl⟩
 ·cases h
theorem retR {P:Program} {fn:Func} {R:Ending→World→Prop} {a:Act} {w:World} {p:Tmp} {ty:TypeId} {g:Nat} {t:TypeId} {cs:Array Value} (hg:Blk w g t cs) (hR:R (.returned (.agg cs)) w) (h:fn.results= #[.cell p ty]:=by rfl) (hp:a.tmps.getD p undef=.pointer (some ⟨g,0,none⟩):=by rfl)
 (hu:isRow P ty=true:=by kernel_rfl) (hi:(P.info? ty).map (·.size)=some cs.size:=by kernel_rfl) (hd:a.defers=[]:=by rfl):bodyPost P fn R .ret a w:=by
 obtain⟨d,h1,h2⟩:=isRow_some hu;exact bodyPost_ret (results_cell_row h _ _ g t cs (0,0) d hp hg h1 (by cases d<;>first|rfl|cases h2) hi) hd hR
open Go.RowKit
def Row (P:Nat→Prop) (w:World) (v:Value) (n size:Nat) (cs:List Value):Prop:=
 ∃A c,v=.slice A n c∧n≤c∧c≤maxLen∧cs.length=n*size∧(A=none→n=0∧c=0)∧(0<n→∃g o,A=some ⟨g,o,none⟩∧(P g∧g<w.heap.size)∧∀(j:Nat) (u:Value),cs[j]?=some u→w.cell? ⟨g,o+j,none⟩=some u)
section
variable {P P':Nat→Prop} {F:Nat→Prop} {w w':World} {v:Value} {n size:Nat} {cs:List Value}
theorem Row.nil (P:Nat→Prop) (w:World) (size:Nat):Row P w (.slice none 0 0) 0 size []:=⟨none,0,rfl,Nat.le_refl _,Nat.zero_le _,by simp,fun _=>⟨rfl,rfl⟩,fun h=>absurd h (by omega)⟩
theorem Row.keepTo (h:Row P w v n size cs) (t:Tch F w w') (hP:∀g,g<w.heap.size→P g→¬F g∧P' g):Row P' w' v n size cs:=by
 obtain⟨A,c,rfl,h1,h2,h3,h4,h5⟩:=h;refine⟨A,c,rfl,h1,h2,h3,h4,fun hn=>?_⟩;obtain⟨g,o,ha,h7,h6⟩:=h5 hn;have hg:=hP g h7.2 h7.1;exact⟨g,o,ha,⟨hg.2,Nat.lt_of_lt_of_le h7.2 t.size⟩,fun j u hu=>t.cell_some (h6 j u hu) hg.1⟩
theorem Row.keep (h:Row P w v n size cs) (t:Tf w w'):Row P w' v n size cs:=h.keepTo t fun _ _ h=>⟨id,h⟩
theorem Row.weak (h:Row P w v n size cs) (hP:∀g,P g→P' g):Row P' w v n size cs:=h.keepTo (Tch.refl (fun _=>False) w) fun g _ h=>⟨id,hP g h⟩
theorem Row.own {base:Nat} {e:TypeId} {xs:List Value} (h:w.ownsRow base e size v n xs) (hP:∀g,v.ownBlock=some g→P g):Row P w v n size xs:=by
 obtain⟨A,c,rfl,h1,h2,h3⟩:=own_form h;have hs:=Src.own h;refine⟨A,c,rfl,h1,h2,h.1,hs.nil,fun hn=>?_⟩;obtain⟨g,rfl⟩:=own_head h hn;exact⟨g,0,rfl,⟨hP g rfl,own_lt h rfl⟩,fun j u hu=>by rw[Nat.zero_add];exact own_cell h (g:=g) rfl hu⟩
theorem Row.form (h:Row P w v n size cs):∃A c,v=.slice A n c∧n≤c∧c≤9223372036854775807:=let⟨A,c,e,h1,h2,_⟩:=h;⟨A,c,e,h1,by unfold maxLen at h2;exact h2⟩
theorem Row.len (h:Row P w v n size cs):cs.length=n*size:=let⟨_,_,_,_,_,h,_⟩:=h;h
theorem Row.src {A:Option Addr} {c:Nat} (h:Row P w (.slice A n c) n size cs):Src w A n c size cs:=by
 obtain⟨A',c',e,h1,h2,h3,h4,h5⟩:=h;injection e with e1 e2 e3;subst e1 e3;refine⟨h3,h4,fun a ha j u hu=>?_⟩
 have hn:0<n:=by
  have:=(List.getElem?_eq_some_iff.1 hu).1;rcases Nat.eq_zero_or_pos n with h0|h0
  ·rw[h0,Nat.zero_mul]at h3;omega
  ·exact h0
 obtain⟨g,o,ha',_,h6⟩:=h5 hn;rw[ha]at ha';obtain rfl:=Option.some.inj ha';rw[Addr.add_mid];exact h6 j u hu
theorem Row.head {A:Option Addr} {c:Nat} (h:Row P w (.slice A n c) n size cs) (hn:0<n):∃g o,A=some ⟨g,o,none⟩:=by
 obtain⟨A',c',e,h1,h2,h3,h4,h5⟩:=h;injection e with e1 e2 e3;subst e1 e3;obtain⟨g,o,ha,_⟩:=h5 hn;exact⟨g,o,ha⟩
theorem Row.at {g o c:Nat} (h:Row P w (.slice (some ⟨g,o,none⟩) n c) n size cs) {j:Nat} {u:Value} (hu:cs[j]?=some u):w.cell? ⟨g,o+j,none⟩=some u:=by
 have:=h.src.cell _ rfl j u hu;rwa [Addr.add_mid]at this
theorem Row.block {g o c:Nat} (h:Row P w (.slice (some ⟨g,o,none⟩) n c) n size cs) (hn:0<n):P g∧g<w.heap.size:=by
 obtain⟨A',c',e,h1,h2,h3,h4,h5⟩:=h;injection e with e1 e2 e3;subst e1 e3;obtain⟨g',o',ha,h7,_⟩:=h5 hn
 cases ha;exact h7
end
theorem own_at {g n c k:Nat} (h:(Value.slice (some ⟨g,0,none⟩) n c).ownBlock=some k):g=k:=Option.some.inj h
theorem Blk.new2 (w:World) (o:Obj) (t:TypeId) (cs:Array Value):Blk ((w.alloc o).alloc (.cells cs t)) (w.heap.size+1) t cs:=by
 simpa using Blk.new (w.alloc o) t cs
theorem own_made (w:World) (e:TypeId) (size c:Nat) (cells:Array Value) (hc:c≤maxLen) (hs:cells.size=c*size):(w.alloc (.cells cells e)).ownsRow w.heap.size e size (.slice (some ⟨w.heap.size,0,none⟩) 0 c) 0 []:=
 ⟨by simp,.inr ⟨w.heap.size,c,cells,rfl,Nat.le_refl _,Blk.new w e cells,Nat.zero_le _,hc,hs,by simp⟩⟩
theorem Row.blk {B:Nat→Prop} {w:World} {g:Nat} {t:TypeId} {cs:Array Value} (h:Blk w g t cs) (hB:B g) {n size:Nat} (hl:cs.size=n*size) (hn:n≤maxLen):Row B w (.slice (some ⟨g,0,none⟩) n n) n size cs.toList:=
 ⟨_,n,rfl,Nat.le_refl _,hn,by simpa using hl,(fun h=>by cases h),fun _=>⟨g,0,rfl,⟨hB,h.lt⟩,fun j u hu=>by rw[Nat.zero_add,h.cell j,←hu];simp⟩⟩
theorem Row.take {P:Nat→Prop} {w:World} {n size:Nat} {cs:List Value} {A:Option Addr} {c:Nat} (h:Row P w (.slice A n c) n size cs) {k:Nat} (hk:k≤n):Row P w (.slice A k c) k size (cs.take (k*size)):=by
 obtain⟨A',c',e,h1,h2,h3,h4,h5⟩:=h;injection e with e1 e2 e3;subst e1 e3;have hm:k*size≤n*size:=Nat.mul_le_mul_right _ hk;refine⟨A,c,rfl,by omega,h2,by rw[List.length_take];omega,fun ha=>⟨by have:=(h4 ha).1;omega,(h4 ha).2⟩,fun hn=>?_⟩;obtain⟨g,o,ha,h7,h6⟩:=h5 (by omega);refine⟨g,o,ha,h7,fun j u hu=>h6 j u ?_⟩;rw[List.getElem?_take]at hu;split at hu
 ·exact hu
 ·cases hu
theorem flat_len {α:Type} {f:α→List Value} {size:Nat} (hf:∀a,(f a).length=size) (l:List α):(l.flatMap f).length=l.length*size:=by
 induction l with
 |nil=>simp
 |cons a r ih=>simp[ih,hf,Nat.add_mul];omega
theorem flat_at {α:Type} {f:α→List Value} {size:Nat} (hf:∀a,(f a).length=size):∀(l:List α) (i:Nat) (h:i<l.length) (j:Nat),j<size→(l.flatMap f)[i*size+j]?=(f l[i])[j]?
 |a::r,0,_,j,hj=>by simp[List.getElem?_append_left,hf,hj]
 |a::r,i+1,h,j,hj=>by
  have:=flat_at hf r i (by simpa using h) j hj;simp only[List.flatMap_cons,List.getElem_cons_succ];rw[List.getElem?_append_right (by rw[hf,Nat.add_mul];omega),hf,←this];congr 1;rw[Nat.add_mul];omega
theorem flat_cut {α:Type} {f:α→List Value} {size:Nat} (hf:∀a,(f a).length=size) (l:List α) (lo k:Nat):((l.flatMap f).drop (lo*size)).take (k*size)=((l.drop lo).take k).flatMap f:=by
 have ht:∀(l:List α) (k:Nat),(l.flatMap f).take (k*size)=(l.take k).flatMap f:=fun l=>by
  induction l with
  |nil=>simp
  |cons a r ih=>
   intro k
   cases k with
   |zero=>simp
   |succ k=>
    rw[List.flatMap_cons,List.take_succ_cons,List.flatMap_cons,List.take_append,hf,List.take_of_length_le (by rw[hf,Nat.add_mul];omega)];rw[show(k+1)*size-size=k*size by rw[Nat.add_mul];omega,ih]
 have hd:∀(l:List α) (k:Nat),(l.flatMap f).drop (k*size)=(l.drop k).flatMap f:=fun l=>by
  induction l with
  |nil=>simp
  |cons a r ih=>
   intro k
   cases k with
   |zero=>simp
   |succ k=>
    rw[List.flatMap_cons,List.drop_succ_cons,List.drop_append,hf,List.drop_eq_nil_of_le (by rw[hf,Nat.add_mul];omega)];rw[show(k+1)*size-size=k*size by rw[Nat.add_mul];omega,ih,List.nil_append]
 rw[hd,ht]
section
variable {P:Program} {w:World} {B:Nat→Prop}
theorem Row.takes {α:Type} {f:α→List Value} {size:Nat} (hf:∀a,(f a).length=size) {A:Option Addr} {n c:Nat} {l:List α} (h:Row B w (.slice A n c) n size (l.flatMap f)) {k:Nat} (hk:k≤n):Row B w (.slice A k c) k size ((l.take k).flatMap f):=by
 have:=h.take hk;have e:=flat_cut hf l 0 k;rw[Nat.zero_mul,List.drop_zero,List.drop_zero]at e;rwa [e]at this
theorem sizeOf_run {e:TypeId} {size:Nat} (hi:(P.info? e).map (·.size)=some size) (w:World):(sizeOf e).run P w=.ok size w:=by
 cases hq:P.info? e with
 |none=>simp[hq]at hi
 |some i=>
  have hs:i.size=size:=by simpa[hq]using hi
  simp[sizeOf,typeInfo,hq,hs]
end
abbrev Acc:=Int×Int×Bool×Bool
abbrev Stk4:=Int×Int×Int×Int
abbrev Rt6:=Int×Int×Int×Int×Int×Int
abbrev Lk2:=Int×Int
abbrev Ln4:=Int×Int×Int×Int
structure Ent where
 period:Int
 reverses:Int
 lines:List Ln4
structure Bks where
 ents:List Int
 accs:List Acc
 stakes:List Stk4
 rates:List Rt6
 locks:List Lk2
 entries:List Ent
def int1 (a:Int):List Value:=[.int .i64 a]
def acc4 (a:Acc):List Value:=[.int .i64 a.1,.int .i64 a.2.1,.bool a.2.2.1,.bool a.2.2.2]
def int4 (a:Int×Int×Int×Int):List Value:=[.int .i64 a.1,.int .i64 a.2.1,.int .i64 a.2.2.1,.int .i64 a.2.2.2]
def int6 (a:Rt6):List Value:=[.int .i64 a.1,.int .i64 a.2.1,.int .i64 a.2.2.1,.int .i64 a.2.2.2.1,.int .i64 a.2.2.2.2.1,.int .i64 a.2.2.2.2.2]
def int2 (a:Int×Int):List Value:=[.int .i64 a.1,.int .i64 a.2]
theorem int1_len:∀a,(int1 a).length=1:=fun _=>rfl
theorem acc4_len:∀a,(acc4 a).length=4:=fun _=>rfl
theorem int4_len:∀a,(int4 a).length=4:=fun _=>rfl
theorem int6_len:∀a,(int6 a).length=6:=fun _=>rfl
theorem int2_len:∀a,(int2 a).length=2:=fun _=>rfl
abbrev RowsOf {α:Type} (f:α→List Value) (size:Nat) (B:Nat→Prop) (w:World) (v:Value) (l:List α):Prop:=Row B w v l.length size (l.flatMap f)
theorem own_up {w:World} {base:Nat} {e:TypeId} {size n:Nat} {v:Value} {xs:List Value} (h:w.ownsRow 0 e size v n xs) (hb:∀g,v.ownBlock=some g→base≤g):w.ownsRow base e size v n xs:=by
 refine⟨h.1,?_⟩
 rcases h.2 with h|⟨g,cap,cur,rfl,_,h3⟩
 ·exact .inl h
 ·exact .inr ⟨g,cap,cur,rfl,hb g rfl,h3⟩
theorem Row.elem {α:Type} {f:α→List Value} {size:Nat} (hf:∀a,(f a).length=size) {B:Nat→Prop} {w:World} {g o c:Nat} {l:List α} (h:Row B w (.slice (some ⟨g,o,none⟩) l.length c) l.length size (l.flatMap f)) {i:Nat} (hi:i<l.length) {j:Nat} (hj:j<size) {u:Value} (hu:(f l[i])[j]?=some u):
 w.cell? ⟨g,o+i*size+j,none⟩=some u:=by
 have:=flat_at hf l i hi j hj;rw[Nat.add_assoc];exact h.at (this.trans hu)
def entC (p:Ent×Value):List Value:=[.int .i64 p.1.period,.int .i64 p.1.reverses,p.2]
theorem entC_len:∀a,(entC a).length=3:=fun _=>rfl
def Entries (B:Nat→Prop) (w:World) (v:Value) (l:List Ent):Prop:=
 ∃us:List (Ent×Value),us.map (·.1)=l∧Row B w v us.length 3 (us.flatMap entC)∧∀p∈us,RowsOf int4 4 B w p.2 p.1.lines
structure BooksIs (B:Nat→Prop) (w:World) (v:Value) (b:Bks):Prop where
 ex:∃e a s r l n,v=.agg #[e,a,s,r,l,n]∧RowsOf int1 1 B w e b.ents∧RowsOf acc4 4 B w a b.accs∧RowsOf int4 4 B w s b.stakes∧RowsOf int6 6 B w r b.rates∧RowsOf int2 2 B w l b.locks∧Entries B w n b.entries
section
variable {B B':Nat→Prop} {F:Nat→Prop} {w w':World} {v:Value}
theorem Entries.keepTo {l:List Ent} (h:Entries B w v l) (t:Tch F w w') (hP:∀g,g<w.heap.size→B g→¬F g∧B' g):Entries B' w' v l:=
 let⟨us,h1,h2,h3⟩:=h;⟨us,h1,h2.keepTo t hP,fun p hp=>(h3 p hp).keepTo t hP⟩
theorem Entries.keep {l:List Ent} (h:Entries B w v l) (t:Tf w w'):Entries B w' v l:=h.keepTo t fun _ _ h=>⟨id,h⟩
theorem BooksIs.keepTo {b:Bks} (h:BooksIs B w v b) (t:Tch F w w') (hP:∀g,g<w.heap.size→B g→¬F g∧B' g):BooksIs B' w' v b:=
 let⟨e,a,s,r,l,n,h0,h1,h2,h3,h4,h5,h6⟩:=h.ex
 ⟨e,a,s,r,l,n,h0,h1.keepTo t hP,h2.keepTo t hP,h3.keepTo t hP,h4.keepTo t hP,h5.keepTo t hP,h6.keepTo t hP⟩
theorem BooksIs.keep {b:Bks} (h:BooksIs B w v b) (t:Tf w w'):BooksIs B w' v b:=h.keepTo t fun _ _ h=>⟨id,h⟩
theorem Entries.len {l:List Ent} (h:Entries B w v l):∃A c,v=.slice A l.length c∧l.length≤c∧c≤9223372036854775807:=by
 obtain⟨us,h1,h2,_⟩:=h;have:=h2.form;rw[←h1,List.length_map];exact this
end
def dval:List Nat→Nat
 |[]=>0
 |d::r=>d+10*dval r
def Digs (l:List Nat):Prop:=∀d∈l,d<10
def Norm (l:List Nat):Prop:=Digs l∧∀h:l≠[],l.getLast h≠0
def dg (n:Nat):List Nat:=if h:n=0 then[]else(n%10)::dg (n/10)
termination_by n
theorem dg_zero:dg 0=[]:=by rw[dg];simp
theorem dg_pos {n:Nat} (h:0<n):dg n=(n%10)::dg (n/10):=by rw[dg];simp[Nat.ne_of_gt h]
theorem dval_dg:∀n,dval (dg n)=n:=fun n=>by
 induction n using Nat.strongRecOn with
 |_ n ih=>
  rcases Nat.eq_zero_or_pos n with h|h
  ·subst h;rw[dg_zero];rfl
  ·rw[dg_pos h,dval,ih (n/10) (by omega)];omega
theorem dg_digs:∀n,Digs (dg n):=fun n=>by
 induction n using Nat.strongRecOn with
 |_ n ih=>
  rcases Nat.eq_zero_or_pos n with h|h
  ·subst h;rw[dg_zero];intro d hd;cases hd
  ·rw[dg_pos h];intro d hd;rcases List.mem_cons.1 hd with e|e
   ·omega
   ·exact ih (n/10) (by omega) d e
theorem Digs.tail {d:Nat} {r:List Nat} (h:Digs (d::r)):d<10∧Digs r:=⟨h d (by simp),fun e he=>h e (by simp[he])⟩
theorem Norm.tail {d:Nat} {r:List Nat} (h:Norm (d::r)):Norm r:=by
 refine⟨(Digs.tail h.1).2,fun hr=>?_⟩;have:=h.2 (by simp);rwa [List.getLast_cons hr]at this
theorem Norm.pos {d:Nat} {r:List Nat} (h:Norm (d::r)):0<dval (d::r):=by
 induction r generalizing d with
 |nil=>
  have:=h.2 (by simp);simp at this;simp[dval];omega
 |cons e r ih=>
  have:=ih h.tail;simp only[dval]at this⊢;omega
theorem Norm.eq {l:List Nat} (h:Norm l):l=dg (dval l):=by
 induction l with
 |nil=>exact dg_zero.symm
 |cons d r ih=>
  have hp:=h.pos;have hd:=(Digs.tail h.1).1;rw[dg_pos hp];have e1:dval (d::r)%10=d:=by simp only[dval];omega
  have e2:dval (d::r)/10=dval r:=by simp only[dval];omega
  rw[e1,e2,←ih h.tail]
theorem dg_norm (n:Nat):Norm (dg n):=by
 refine⟨dg_digs n,?_⟩;induction n using Nat.strongRecOn with
 |_ n ih=>
  rcases Nat.eq_zero_or_pos n with h|h
  ·subst h;rw[dg_zero];intro h;exact absurd rfl h
  ·intro hne;have e:dg n=(n%10)::dg (n/10):=dg_pos h;simp only[e];by_cases hr:dg (n/10)=[]
   ·simp only[hr,List.getLast_singleton];have hv:=dval_dg (n/10);rw[hr]at hv;simp only[dval]at hv;omega
   ·rw[List.getLast_cons hr];exact ih (n/10) (by omega) hr
theorem dval_append (a b:List Nat):dval (a++b)=dval a+10^a.length*dval b:=by
 induction a with
 |nil=>simp[dval]
 |cons d r ih=>simp only[List.cons_append,dval,ih,List.length_cons,Nat.pow_succ];rw[Nat.mul_add];simp only[←Nat.mul_assoc,Nat.mul_comm];omega
theorem dval_snoc (a:List Nat) (d:Nat):dval (a++[d])=dval a+10^a.length*d:=by
 rw[dval_append];simp[dval]
theorem dval_lt {l:List Nat} (h:Digs l):dval l<10^l.length:=by
 induction l with
 |nil=>simp[dval]
 |cons d r ih=>
  have:=ih h.tail.2;have h1:=h.tail.1;simp only[dval,List.length_cons,Nat.pow_succ];omega
theorem dval_take {l:List Nat} {i:Nat} (h:i<l.length):dval (l.take (i+1))=dval (l.take i)+10^i*l.getD i 0:=by
 rw[List.take_succ_eq_append_getElem h,dval_snoc,List.length_take,Nat.min_eq_left (by omega)];simp[h]
theorem dval_take_end {l:List Nat} {i:Nat} (h:l.length≤i):dval (l.take i)=dval l:=by rw[List.take_of_length_le h]
theorem trim_eq {l:List Nat} (hd:Digs l) {k:Nat} (hk:k≤l.length) (h0:∀i,k≤i→i<l.length→l.getD i 0=0) (hl:0<k→l.getD (k-1) 0≠0):l.take k=dg (dval l):=by
 have hn:Norm (l.take k):=by
  refine⟨fun d h=>hd d (List.mem_of_mem_take h),fun hne=>?_⟩
  have hkp:0<k:=by
   rcases Nat.eq_zero_or_pos k with h|h
   ·subst h;simp at hne
   ·exact h
  have:=hl hkp;rw[List.getLast_eq_getElem];simp only[List.length_take,Nat.min_eq_left hk,List.getElem_take];have hlt:k-1<l.length:=by omega
  simpa[hlt]using this
 have hz:∀m:List Nat,(∀i,i<m.length→m.getD i 0=0)→dval m=0:=fun m=>by
  induction m with
  |nil=>intro _;rfl
  |cons d r ih=>
   intro h;have h1:=h 0 (by simp);simp at h1;have h2:=ih (fun i hi=>by have:=h (i+1) (by simpa using hi);simpa using this);simp[dval,h1,h2]
 have hv:dval l=dval (l.take k):=by
  conv=>lhs;rw[←List.take_append_drop k l]
  rw[dval_append,hz (l.drop k) (fun i hi=>?_)]
  ·simp
  ·have:=h0 (k+i) (by omega) (by simp at hi;omega);simpa[List.getD_eq_getElem?_getD,List.getElem?_drop]using this
 rw[hv];exact hn.eq
theorem dg_len_lt {a b:Nat} (h:(dg a).length<(dg b).length):a<b:=by
 have h1:=dval_lt (dg_digs a);rw[dval_dg]at h1
 have hb:10^((dg b).length-1)≤b:=by
  have hne:dg b≠[]:=by intro e;rw[e]at h;simp at h
  have hl:=(dg_norm b).2 hne;have hs:=dval_append (dg b).dropLast [(dg b).getLast hne];rw[List.dropLast_concat_getLast,dval_dg]at hs;simp only[dval,List.length_dropLast,Nat.mul_zero,Nat.add_zero]at hs;have:10^((dg b).length-1)*1≤10^((dg b).length-1)*((dg b).getLast hne):=Nat.mul_le_mul_left _ (by omega);omega
 have hp:10^(dg a).length≤10^((dg b).length-1):=Nat.pow_le_pow_right (by decide) (by omega);omega
theorem dval_cmp {a b:List Nat} (ha:Digs a) (_hb:Digs b) (hl:a.length=b.length) {i:Nat} (hi:i<a.length) (hs:∀j,i<j→j<a.length→a.getD j 0=b.getD j 0) (hlt:a.getD i 0<b.getD i 0):dval a<dval b:=by
 have hdrop:a.drop (i+1)=b.drop (i+1):=by
  apply List.ext_getElem
  ·simp[hl]
  ·intro j h1 h2;simp at h1;have:=hs (i+1+j) (by omega) (by omega);have h3:i+1+j<a.length:=by omega
   have h4:i+1+j<b.length:=by omega
   simpa[h3,h4]using this
 have ea:=dval_append (a.take (i+1)) (a.drop (i+1));have eb:=dval_append (b.take (i+1)) (b.drop (i+1));rw[List.take_append_drop]at ea eb;rw[dval_take hi,List.length_take,Nat.min_eq_left (by omega)]at ea;rw[dval_take (by omega:i<b.length),List.length_take,Nat.min_eq_left (by omega),←hdrop]at eb;have l1:=dval_lt (l:=a.take i) (fun d h=>ha d (List.mem_of_mem_take h));rw[List.length_take,Nat.min_eq_left (by omega)]at l1;have:10^i*(a.getD i 0+1)≤10^i*b.getD i 0:=Nat.mul_le_mul_left _ hlt;rw[Nat.mul_add]at this;omega
theorem dval_inj {a b:List Nat} (hl:a.length=b.length) (hs:∀j,j<a.length→a.getD j 0=b.getD j 0):a=b:=by
 apply List.ext_getElem hl
 intro j h1 h2;have:=hs j h1;simpa[h1,h2]using this
structure More (a b out:List Nat) (i carry:Nat):Prop where
 len:out.length=i
 digs:Digs out
 small:carry≤1
 val:dval out+10^i*carry=dval (a.take i)+dval (b.take i)
theorem More.start (a b:List Nat):More a b [] 0 0:=⟨rfl,(fun d h=>by cases h),Nat.zero_le _,by simp[dval]⟩
theorem More.step {a b out:List Nat} {i carry:Nat} (h:More a b out i carry) (ha:Digs a) (hb:Digs b) {d:Nat} (hd:d=carry+a.getD i 0+b.getD i 0):More a b (out++[d%10]) (i+1) (d/10):=by
 have h1:=h.small
 have ga:a.getD i 0<10:=by
  simp only[List.getD_eq_getElem?_getD]
  cases e:a[i]? with
  |none=>simp
  |some x=>exact ha x (List.mem_of_getElem? e)
 have gb:b.getD i 0<10:=by
  simp only[List.getD_eq_getElem?_getD]
  cases e:b[i]? with
  |none=>simp
  |some x=>exact hb x (List.mem_of_getElem? e)
 have ta:∀l:List Nat,dval (l.take (i+1))=dval (l.take i)+10^i*l.getD i 0:=fun l=>by
  by_cases hi:i<l.length
  ·exact dval_take hi
  ·rw[List.take_of_length_le (by omega),List.take_of_length_le (by omega)];simp[List.getElem?_eq_none (show l.length≤i by omega)]
 refine⟨by simp[h.len],fun e he=>?_,by omega,?_⟩
 ·rcases List.mem_append.1 he with he|he
  ·exact h.digs e he
  ·obtain rfl:e=d%10:=by simpa using he
   omega
 ·rw[dval_snoc,h.len,ta a,ta b];have hv:=h.val
  have:10^(i+1)*(d/10)+10^i*(d%10)=10^i*d:=by
   rw[Nat.pow_succ,Nat.mul_assoc,←Nat.mul_add];congr 1;omega
  have e2:10^i*d=10^i*carry+10^i*a.getD i 0+10^i*b.getD i 0:=by rw[hd,Nat.mul_add,Nat.mul_add]
  omega
theorem More.stop {a b out:List Nat} {i:Nat} (h:More a b out i 0) (ha:a.length≤i) (hb:b.length≤i):dval out=dval a+dval b:=by
 have:=h.val;rwa [Nat.mul_zero,Nat.add_zero,dval_take_end ha,dval_take_end hb]at this
structure Fewer (a b out:List Nat) (i borrow:Nat):Prop where
 len:out.length=i
 digs:Digs out
 small:borrow≤1
 val:dval out+dval (b.take i)=dval (a.take i)+10^i*borrow
theorem Fewer.start (a b:List Nat):Fewer a b [] 0 0:=⟨rfl,(fun d h=>by cases h),Nat.zero_le _,by simp[dval]⟩
theorem Fewer.step {a b out:List Nat} {i borrow:Nat} (h:Fewer a b out i borrow) {d borrow':Nat} (hd:d+borrow+b.getD i 0=a.getD i 0+10*borrow') (h10:d<10) (hb':borrow'≤1):Fewer a b (out++[d]) (i+1) borrow':=by
 have ta:∀l:List Nat,dval (l.take (i+1))=dval (l.take i)+10^i*l.getD i 0:=fun l=>by
  by_cases hi:i<l.length
  ·exact dval_take hi
  ·rw[List.take_of_length_le (by omega),List.take_of_length_le (by omega)];simp[List.getElem?_eq_none (show l.length≤i by omega)]
 refine⟨by simp[h.len],fun e he=>?_,hb',?_⟩
 ·rcases List.mem_append.1 he with he|he
  ·exact h.digs e he
  ·obtain rfl:e=d:=by simpa using he
   exact h10
 ·rw[dval_snoc,h.len,ta a,ta b,Nat.pow_succ];have hv:=h.val;have e1:10^i*(d+borrow+b.getD i 0)=10^i*(a.getD i 0+10*borrow'):=by rw[hd]
  rw[Nat.mul_add,Nat.mul_add,Nat.mul_add,←Nat.mul_assoc]at e1;omega
theorem Fewer.stop {a b out:List Nat} {borrow:Nat} (h:Fewer a b out a.length borrow) (hle:dval b≤dval a) (hlen:b.length≤a.length):dval out=dval a-dval b:=by
 have hv:=h.val;rw[dval_take_end (Nat.le_refl _),dval_take_end hlen]at hv;have hl:=dval_lt h.digs;rw[h.len]at hl;have hb:=h.small;rcases Nat.eq_zero_or_pos borrow with e|e
 ·subst e;omega
 ·obtain rfl:borrow=1:=by omega
  omega
